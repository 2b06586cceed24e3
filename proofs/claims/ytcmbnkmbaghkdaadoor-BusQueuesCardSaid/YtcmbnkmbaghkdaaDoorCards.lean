/-
  DERIVED. GIVEN WITH THE SEED: THE CARDS: each row of YtcmbnkmbaghkdaaDoorRows.lean that lists a variable, with what it lists TIED to the program's text (the seventh form; the later family's looks); each row that meets fmt, with fmt's text TOLD by the authors' own Lean function (tested against real Go, not proved from fmt's source: count such statements apart). THE CARD IS WHAT COUNTS. Prove the row's statement (the work); the ties are given (YtcmbnkmbaghkdaaDoorTie.lean); close each card by the builder's one call (the guide's Derived/Test/ToyasCard.lean, 'card_holds'). Laid BY PROGRAM, IN A SANDBOX (cutbox-door.mjs). By AI agents, Wed Nov 11 2026. No macro, syntax, notation, axiom, sorry.
-/
import Derived.Test.YtcmbnkmbaghkdaaDoorRows
import GoSem.ClaimSeven
namespace Go.Proofs.YtcmbnkmbaghkdaaDoor
namespace Rows

/-- THE TIED CARD OF 'pinnacelaw07.BusQueues'. -/
def busQueuesCard : Claim7 := { stood := { row := busQueuesRow, standIns := [], harness := (true, "f2e1a3f823f2f87b918a820e891938d04d9f7fc1b1dbc3d0900c6b444ae66d1f"), looks := true }, kinds := [], alts := [], laidByText := true, laidKinds := [.handle, .data], laidTests := true, laidLooks := .later }
def BusQueuesCardSaid : Prop := Claim7.holds Tryd.pinned (.plain (OpenSpec.ofChange busQueuesSpec)) busQueuesCard

/-- THE TIED CARD OF 'pinnacelaw16.NicSends'. -/
def nicSendsCard : Claim7 := { stood := { row := nicSendsRow, standIns := [], harness := (true, "f2e1a3f823f2f87b918a820e891938d04d9f7fc1b1dbc3d0900c6b444ae66d1f"), looks := true }, kinds := [], alts := [], laidByText := true, laidKinds := [.data], laidTests := true, laidLooks := .later }
def NicSendsCardSaid : Prop := Claim7.holds Tryd.pinned (.plain (OpenSpec.ofChange nicSendsSpec)) nicSendsCard

/-- THE TIED CARD OF 'pinnacelaw15.BlkReads'. -/
def blkReadsCard : Claim7 := { stood := { row := blkReadsRow, standIns := [], harness := (true, "f2e1a3f823f2f87b918a820e891938d04d9f7fc1b1dbc3d0900c6b444ae66d1f"), looks := true }, kinds := [], alts := [], laidByText := true, laidKinds := [.data], laidTests := true, laidLooks := .later }
def BlkReadsCardSaid : Prop := Claim7.holds Tryd.pinned (.plain (OpenSpec.ofChange blkReadsSpec)) blkReadsCard

/-- THE TIED CARD OF 'pinnacelaw15.BlkWrites'. -/
def blkWritesCard : Claim7 := { stood := { row := blkWritesRow, standIns := [], harness := (true, "f2e1a3f823f2f87b918a820e891938d04d9f7fc1b1dbc3d0900c6b444ae66d1f"), looks := true }, kinds := [], alts := [], laidByText := true, laidKinds := [.data], laidTests := true, laidLooks := .later }
def BlkWritesCardSaid : Prop := Claim7.holds Tryd.pinned (.plain (OpenSpec.ofChange blkWritesSpec)) blkWritesCard

/-- THE SECOND FORM's CARD OF 'pinnacelaw07.BusQueues'. -/
def busQueuesUptoCard : Claim7 := { stood := { row := busQueuesUptoRow, standIns := [], harness := (true, "f2e1a3f823f2f87b918a820e891938d04d9f7fc1b1dbc3d0900c6b444ae66d1f"), looks := true }, kinds := [], alts := [], laidByText := true, laidKinds := [.handle, .data], laidTests := true, laidLooks := .later }
def BusQueuesUptoCardSaid : Prop := Claim7.holds Tryd.pinned (.plain (OpenSpec.upto busQueuesSpec)) busQueuesUptoCard

/-- THE SECOND FORM's CARD OF 'pinnacelaw16.NicSends'. -/
def nicSendsUptoCard : Claim7 := { stood := { row := nicSendsUptoRow, standIns := [], harness := (true, "f2e1a3f823f2f87b918a820e891938d04d9f7fc1b1dbc3d0900c6b444ae66d1f"), looks := true }, kinds := [], alts := [], laidByText := true, laidKinds := [.data], laidTests := true, laidLooks := .later }
def NicSendsUptoCardSaid : Prop := Claim7.holds Tryd.pinned (.plain (OpenSpec.upto nicSendsSpec)) nicSendsUptoCard

/-- THE SECOND FORM's CARD OF 'pinnacelaw15.BlkReads'. -/
def blkReadsUptoCard : Claim7 := { stood := { row := blkReadsUptoRow, standIns := [], harness := (true, "f2e1a3f823f2f87b918a820e891938d04d9f7fc1b1dbc3d0900c6b444ae66d1f"), looks := true }, kinds := [], alts := [], laidByText := true, laidKinds := [.data], laidTests := true, laidLooks := .later }
def BlkReadsUptoCardSaid : Prop := Claim7.holds Tryd.pinned (.plain (OpenSpec.upto blkReadsSpec)) blkReadsUptoCard

/-- THE SECOND FORM's CARD OF 'pinnacelaw15.BlkWrites'. -/
def blkWritesUptoCard : Claim7 := { stood := { row := blkWritesUptoRow, standIns := [], harness := (true, "f2e1a3f823f2f87b918a820e891938d04d9f7fc1b1dbc3d0900c6b444ae66d1f"), looks := true }, kinds := [], alts := [], laidByText := true, laidKinds := [.data], laidTests := true, laidLooks := .later }
def BlkWritesUptoCardSaid : Prop := Claim7.holds Tryd.pinned (.plain (OpenSpec.upto blkWritesSpec)) blkWritesUptoCard
end Rows
end Go.Proofs.YtcmbnkmbaghkdaaDoor

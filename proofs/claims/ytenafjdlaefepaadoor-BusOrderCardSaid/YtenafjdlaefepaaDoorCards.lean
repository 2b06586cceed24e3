/-
  DERIVED. GIVEN WITH THE SEED: THE CARDS: each row of YtenafjdlaefepaaDoorRows.lean that lists a variable, with what it lists TIED to the program's text (the seventh form; the later family's looks); each row that meets fmt, with fmt's text TOLD by the authors' own Lean function (tested against real Go, not proved from fmt's source: count such statements apart). THE CARD IS WHAT COUNTS. Prove the row's statement (the work); the ties are given (YtenafjdlaefepaaDoorTie.lean); close each card by the builder's one call (the guide's Derived/Test/ToyasCard.lean, 'card_holds'). Laid BY PROGRAM, IN A SANDBOX (cutbox-door.mjs). By AI agents, Wed Nov 11 2026. No macro, syntax, notation, axiom, sorry.
-/
import Derived.Test.YtenafjdlaefepaaDoorRows
import GoSem.ClaimSeven
namespace Go.Proofs.YtenafjdlaefepaaDoor
namespace Rows

/-- THE TIED CARD OF 'pinnacelaw09.PlicLevels'. -/
def plicLevelsCard : Claim7 := { stood := { row := plicLevelsRow, standIns := [], harness := (true, "88a1fcd5f2d69d52b6e2a7cd356e7529a58fe78ebef56a8507d1e29d1d080ac8"), looks := true }, kinds := [], alts := [], laidByText := true, laidKinds := [.data], laidTests := true, laidLooks := .later }
def PlicLevelsCardSaid : Prop := Claim7.holds Tryd.pinned (.plain (OpenSpec.ofChange plicLevelsSpec)) plicLevelsCard

/-- THE TIED CARD OF 'pinnacelaw09.PlicBest'. -/
def plicBestCard : Claim7 := { stood := { row := plicBestRow, standIns := [], harness := (true, "88a1fcd5f2d69d52b6e2a7cd356e7529a58fe78ebef56a8507d1e29d1d080ac8"), looks := true }, kinds := [], alts := [], laidByText := true, laidKinds := [.data], laidTests := true, laidLooks := .later }
def PlicBestCardSaid : Prop := Claim7.holds Tryd.pinned (.plain (OpenSpec.ofChange plicBestSpec)) plicBestCard

/-- THE TIED CARD OF 'pinnacelaw09.PlicOnce'. -/
def plicOnceCard : Claim7 := { stood := { row := plicOnceRow, standIns := [], harness := (true, "88a1fcd5f2d69d52b6e2a7cd356e7529a58fe78ebef56a8507d1e29d1d080ac8"), looks := true }, kinds := [], alts := [], laidByText := true, laidKinds := [.data], laidTests := true, laidLooks := .later }
def PlicOnceCardSaid : Prop := Claim7.holds Tryd.pinned (.plain (OpenSpec.ofChange plicOnceSpec)) plicOnceCard

/-- THE TIED CARD OF 'pinnacelaw07.BusFinds'. -/
def busFindsCard : Claim7 := { stood := { row := busFindsRow, standIns := [], harness := (true, "88a1fcd5f2d69d52b6e2a7cd356e7529a58fe78ebef56a8507d1e29d1d080ac8"), looks := true }, kinds := [], alts := [], laidByText := true, laidKinds := [.handle, .data], laidTests := true, laidLooks := .later }
def BusFindsCardSaid : Prop := Claim7.holds Tryd.pinned (.plain (OpenSpec.ofChange busFindsSpec)) busFindsCard

/-- THE TIED CARD OF 'pinnacelaw07.BusBases'. -/
def busBasesCard : Claim7 := { stood := { row := busBasesRow, standIns := [], harness := (true, "88a1fcd5f2d69d52b6e2a7cd356e7529a58fe78ebef56a8507d1e29d1d080ac8"), looks := true }, kinds := [], alts := [], laidByText := true, laidKinds := [.handle, .data], laidTests := true, laidLooks := .later }
def BusBasesCardSaid : Prop := Claim7.holds Tryd.pinned (.plain (OpenSpec.ofChange busBasesSpec)) busBasesCard

/-- THE TIED CARD OF 'pinnacelaw07.BusApart'. -/
def busApartCard : Claim7 := { stood := { row := busApartRow, standIns := [], harness := (true, "88a1fcd5f2d69d52b6e2a7cd356e7529a58fe78ebef56a8507d1e29d1d080ac8"), looks := true }, kinds := [], alts := [], laidByText := true, laidKinds := [.handle, .data], laidTests := true, laidLooks := .later }
def BusApartCardSaid : Prop := Claim7.holds Tryd.pinned (.plain (OpenSpec.ofChange busApartSpec)) busApartCard

/-- THE TIED CARD OF 'pinnacelaw09.PlicWrites'. -/
def plicWritesCard : Claim7 := { stood := { row := plicWritesRow, standIns := [], harness := (true, "88a1fcd5f2d69d52b6e2a7cd356e7529a58fe78ebef56a8507d1e29d1d080ac8"), looks := true }, kinds := [], alts := [], laidByText := true, laidKinds := [.data, .handle], laidTests := true, laidLooks := .later }
def PlicWritesCardSaid : Prop := Claim7.holds Tryd.pinned (.plain (OpenSpec.ofChange plicWritesSpec)) plicWritesCard

/-- THE TIED CARD OF 'pinnacelaw07.BusQueues'. -/
def busQueuesCard : Claim7 := { stood := { row := busQueuesRow, standIns := [], harness := (true, "88a1fcd5f2d69d52b6e2a7cd356e7529a58fe78ebef56a8507d1e29d1d080ac8"), looks := true }, kinds := [], alts := [], laidByText := true, laidKinds := [.handle, .data], laidTests := true, laidLooks := .later }
def BusQueuesCardSaid : Prop := Claim7.holds Tryd.pinned (.plain (OpenSpec.ofChange busQueuesSpec)) busQueuesCard

/-- THE TIED CARD OF 'pinnacelaw07.BusOrder'. -/
def busOrderCard : Claim7 := { stood := { row := busOrderRow, standIns := [], harness := (true, "88a1fcd5f2d69d52b6e2a7cd356e7529a58fe78ebef56a8507d1e29d1d080ac8"), looks := true }, kinds := [], alts := [], laidByText := true, laidKinds := [.handle, .data], laidTests := true, laidLooks := .later }
def BusOrderCardSaid : Prop := Claim7.holds Tryd.pinned (.plain (OpenSpec.ofChange busOrderSpec)) busOrderCard

/-- THE TIED CARD OF 'pinnacelaw14.VirtioReads'. -/
def virtioReadsCard : Claim7 := { stood := { row := virtioReadsRow, standIns := [], harness := (true, "88a1fcd5f2d69d52b6e2a7cd356e7529a58fe78ebef56a8507d1e29d1d080ac8"), looks := true }, kinds := [], alts := [], laidByText := true, laidKinds := [.handle], laidTests := true, laidLooks := .later }
def VirtioReadsCardSaid : Prop := Claim7.holds Tryd.pinned (.plain (OpenSpec.ofChange virtioReadsSpec)) virtioReadsCard

/-- THE SECOND FORM's CARD OF 'pinnacelaw09.PlicLevels'. -/
def plicLevelsUptoCard : Claim7 := { stood := { row := plicLevelsUptoRow, standIns := [], harness := (true, "88a1fcd5f2d69d52b6e2a7cd356e7529a58fe78ebef56a8507d1e29d1d080ac8"), looks := true }, kinds := [], alts := [], laidByText := true, laidKinds := [.data], laidTests := true, laidLooks := .later }
def PlicLevelsUptoCardSaid : Prop := Claim7.holds Tryd.pinned (.plain (OpenSpec.upto plicLevelsSpec)) plicLevelsUptoCard

/-- THE SECOND FORM's CARD OF 'pinnacelaw09.PlicBest'. -/
def plicBestUptoCard : Claim7 := { stood := { row := plicBestUptoRow, standIns := [], harness := (true, "88a1fcd5f2d69d52b6e2a7cd356e7529a58fe78ebef56a8507d1e29d1d080ac8"), looks := true }, kinds := [], alts := [], laidByText := true, laidKinds := [.data], laidTests := true, laidLooks := .later }
def PlicBestUptoCardSaid : Prop := Claim7.holds Tryd.pinned (.plain (OpenSpec.upto plicBestSpec)) plicBestUptoCard

/-- THE SECOND FORM's CARD OF 'pinnacelaw09.PlicOnce'. -/
def plicOnceUptoCard : Claim7 := { stood := { row := plicOnceUptoRow, standIns := [], harness := (true, "88a1fcd5f2d69d52b6e2a7cd356e7529a58fe78ebef56a8507d1e29d1d080ac8"), looks := true }, kinds := [], alts := [], laidByText := true, laidKinds := [.data], laidTests := true, laidLooks := .later }
def PlicOnceUptoCardSaid : Prop := Claim7.holds Tryd.pinned (.plain (OpenSpec.upto plicOnceSpec)) plicOnceUptoCard

/-- THE SECOND FORM's CARD OF 'pinnacelaw07.BusFinds'. -/
def busFindsUptoCard : Claim7 := { stood := { row := busFindsUptoRow, standIns := [], harness := (true, "88a1fcd5f2d69d52b6e2a7cd356e7529a58fe78ebef56a8507d1e29d1d080ac8"), looks := true }, kinds := [], alts := [], laidByText := true, laidKinds := [.handle, .data], laidTests := true, laidLooks := .later }
def BusFindsUptoCardSaid : Prop := Claim7.holds Tryd.pinned (.plain (OpenSpec.upto busFindsSpec)) busFindsUptoCard

/-- THE SECOND FORM's CARD OF 'pinnacelaw07.BusBases'. -/
def busBasesUptoCard : Claim7 := { stood := { row := busBasesUptoRow, standIns := [], harness := (true, "88a1fcd5f2d69d52b6e2a7cd356e7529a58fe78ebef56a8507d1e29d1d080ac8"), looks := true }, kinds := [], alts := [], laidByText := true, laidKinds := [.handle, .data], laidTests := true, laidLooks := .later }
def BusBasesUptoCardSaid : Prop := Claim7.holds Tryd.pinned (.plain (OpenSpec.upto busBasesSpec)) busBasesUptoCard

/-- THE SECOND FORM's CARD OF 'pinnacelaw07.BusApart'. -/
def busApartUptoCard : Claim7 := { stood := { row := busApartUptoRow, standIns := [], harness := (true, "88a1fcd5f2d69d52b6e2a7cd356e7529a58fe78ebef56a8507d1e29d1d080ac8"), looks := true }, kinds := [], alts := [], laidByText := true, laidKinds := [.handle, .data], laidTests := true, laidLooks := .later }
def BusApartUptoCardSaid : Prop := Claim7.holds Tryd.pinned (.plain (OpenSpec.upto busApartSpec)) busApartUptoCard

/-- THE SECOND FORM's CARD OF 'pinnacelaw09.PlicWrites'. -/
def plicWritesUptoCard : Claim7 := { stood := { row := plicWritesUptoRow, standIns := [], harness := (true, "88a1fcd5f2d69d52b6e2a7cd356e7529a58fe78ebef56a8507d1e29d1d080ac8"), looks := true }, kinds := [], alts := [], laidByText := true, laidKinds := [.data, .handle], laidTests := true, laidLooks := .later }
def PlicWritesUptoCardSaid : Prop := Claim7.holds Tryd.pinned (.plain (OpenSpec.upto plicWritesSpec)) plicWritesUptoCard

/-- THE SECOND FORM's CARD OF 'pinnacelaw07.BusQueues'. -/
def busQueuesUptoCard : Claim7 := { stood := { row := busQueuesUptoRow, standIns := [], harness := (true, "88a1fcd5f2d69d52b6e2a7cd356e7529a58fe78ebef56a8507d1e29d1d080ac8"), looks := true }, kinds := [], alts := [], laidByText := true, laidKinds := [.handle, .data], laidTests := true, laidLooks := .later }
def BusQueuesUptoCardSaid : Prop := Claim7.holds Tryd.pinned (.plain (OpenSpec.upto busQueuesSpec)) busQueuesUptoCard

/-- THE SECOND FORM's CARD OF 'pinnacelaw07.BusOrder'. -/
def busOrderUptoCard : Claim7 := { stood := { row := busOrderUptoRow, standIns := [], harness := (true, "88a1fcd5f2d69d52b6e2a7cd356e7529a58fe78ebef56a8507d1e29d1d080ac8"), looks := true }, kinds := [], alts := [], laidByText := true, laidKinds := [.handle, .data], laidTests := true, laidLooks := .later }
def BusOrderUptoCardSaid : Prop := Claim7.holds Tryd.pinned (.plain (OpenSpec.upto busOrderSpec)) busOrderUptoCard

/-- THE SECOND FORM's CARD OF 'pinnacelaw14.VirtioReads'. -/
def virtioReadsUptoCard : Claim7 := { stood := { row := virtioReadsUptoRow, standIns := [], harness := (true, "88a1fcd5f2d69d52b6e2a7cd356e7529a58fe78ebef56a8507d1e29d1d080ac8"), looks := true }, kinds := [], alts := [], laidByText := true, laidKinds := [.handle], laidTests := true, laidLooks := .later }
def VirtioReadsUptoCardSaid : Prop := Claim7.holds Tryd.pinned (.plain (OpenSpec.upto virtioReadsSpec)) virtioReadsUptoCard
end Rows
end Go.Proofs.YtenafjdlaefepaaDoor

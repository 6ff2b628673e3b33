/-
  DERIVED. GIVEN WITH THE SEED: THE CARDS: each row of YthkadehlclcggaaGreatDoorRows.lean that lists a variable, with what it lists TIED to the program's text (the seventh form; the later family's looks); each row that meets fmt, with fmt's text TOLD by the authors' own Lean function (tested against real Go, not proved from fmt's source: count such statements apart). THE CARD IS WHAT COUNTS. Prove the row's statement (the work); the ties are given (YthkadehlclcggaaGreatDoorTie.lean); close each card by the builder's one call (the guide's Derived/Test/ToyasCard.lean, 'card_holds'). Laid BY PROGRAM, IN A SANDBOX (cutbox-door.mjs). By AI agents, Wed Nov 11 2026. No macro, syntax, notation, axiom, sorry.
-/
import Derived.Test.YthkadehlclcggaaGreatDoorRows
import GoSem.ClaimSeven
namespace Go.Proofs.YthkadehlclcggaaGreatDoor
namespace Rows

/-- THE TIED CARD OF 'rosterlaw19.SubsOnce'. -/
def subsOnceCard : Claim7 := { stood := { row := subsOnceRow, standIns := [], harness := (true, "20d72eddb7975c7f0bc9d78f90e18eafb3370e2c8e01c682c75c2b8728d06861"), looks := true }, kinds := [], alts := [], laidByText := true, laidKinds := [.data, .pinned], laidTests := true, laidLooks := .later }
def SubsOnceCardSaid : Prop := Claim7.holds Tryz.pinned (.plain (OpenSpec.ofChange subsOnceSpec)) subsOnceCard

/-- THE TIED CARD OF 'rosterlaw19.SubsLasts'. -/
def subsLastsCard : Claim7 := { stood := { row := subsLastsRow, standIns := [], harness := (true, "20d72eddb7975c7f0bc9d78f90e18eafb3370e2c8e01c682c75c2b8728d06861"), looks := true }, kinds := [], alts := [], laidByText := true, laidKinds := [.data, .pinned], laidTests := true, laidLooks := .later }
def SubsLastsCardSaid : Prop := Claim7.holds Tryz.pinned (.plain (OpenSpec.ofChange subsLastsSpec)) subsLastsCard

/-- THE TIED CARD OF 'rosterlaw19.SubsFull'. -/
def subsFullCard : Claim7 := { stood := { row := subsFullRow, standIns := [], harness := (true, "20d72eddb7975c7f0bc9d78f90e18eafb3370e2c8e01c682c75c2b8728d06861"), looks := true }, kinds := [], alts := [], laidByText := true, laidKinds := [.data, .pinned], laidTests := true, laidLooks := .later }
def SubsFullCardSaid : Prop := Claim7.holds Tryz.pinned (.plain (OpenSpec.ofChange subsFullSpec)) subsFullCard

/-- THE TIED CARD OF 'rosterlaw19.SubsApart'. -/
def subsApartCard : Claim7 := { stood := { row := subsApartRow, standIns := [], harness := (true, "20d72eddb7975c7f0bc9d78f90e18eafb3370e2c8e01c682c75c2b8728d06861"), looks := true }, kinds := [], alts := [], laidByText := true, laidKinds := [.data, .pinned], laidTests := true, laidLooks := .later }
def SubsApartCardSaid : Prop := Claim7.holds Tryz.pinned (.plain (OpenSpec.ofChange subsApartSpec)) subsApartCard

/-- THE TIED CARD OF 'rosterlaw19.SubsEnds'. -/
def subsEndsCard : Claim7 := { stood := { row := subsEndsRow, standIns := [], harness := (true, "20d72eddb7975c7f0bc9d78f90e18eafb3370e2c8e01c682c75c2b8728d06861"), looks := true }, kinds := [], alts := [], laidByText := true, laidKinds := [.data, .pinned], laidTests := true, laidLooks := .later }
def SubsEndsCardSaid : Prop := Claim7.holds Tryz.pinned (.plain (OpenSpec.ofChange subsEndsSpec)) subsEndsCard

/-- THE TIED CARD OF 'rosterlaw19.SubsPlays'. -/
def subsPlaysCard : Claim7 := { stood := { row := subsPlaysRow, standIns := [], harness := (true, "20d72eddb7975c7f0bc9d78f90e18eafb3370e2c8e01c682c75c2b8728d06861"), looks := true }, kinds := [], alts := [], laidByText := true, laidKinds := [.data, .pinned], laidTests := true, laidLooks := .later }
def SubsPlaysCardSaid : Prop := Claim7.holds Tryz.pinned (.plain (OpenSpec.ofChange subsPlaysSpec)) subsPlaysCard

/-- THE TIED CARD OF 'rosterlaw19.SubsNobody'. -/
def subsNobodyCard : Claim7 := { stood := { row := subsNobodyRow, standIns := [], harness := (true, "20d72eddb7975c7f0bc9d78f90e18eafb3370e2c8e01c682c75c2b8728d06861"), looks := true }, kinds := [], alts := [], laidByText := true, laidKinds := [.data, .pinned], laidTests := true, laidLooks := .later }
def SubsNobodyCardSaid : Prop := Claim7.holds Tryz.pinned (.plain (OpenSpec.ofChange subsNobodySpec)) subsNobodyCard

/-- THE SECOND FORM's CARD OF 'rosterlaw19.SubsOnce'. -/
def subsOnceUptoCard : Claim7 := { stood := { row := subsOnceUptoRow, standIns := [], harness := (true, "20d72eddb7975c7f0bc9d78f90e18eafb3370e2c8e01c682c75c2b8728d06861"), looks := true }, kinds := [], alts := [], laidByText := true, laidKinds := [.data, .pinned], laidTests := true, laidLooks := .later }
def SubsOnceUptoCardSaid : Prop := Claim7.holds Tryz.pinned (.plain (OpenSpec.upto subsOnceSpec)) subsOnceUptoCard

/-- THE SECOND FORM's CARD OF 'rosterlaw19.SubsLasts'. -/
def subsLastsUptoCard : Claim7 := { stood := { row := subsLastsUptoRow, standIns := [], harness := (true, "20d72eddb7975c7f0bc9d78f90e18eafb3370e2c8e01c682c75c2b8728d06861"), looks := true }, kinds := [], alts := [], laidByText := true, laidKinds := [.data, .pinned], laidTests := true, laidLooks := .later }
def SubsLastsUptoCardSaid : Prop := Claim7.holds Tryz.pinned (.plain (OpenSpec.upto subsLastsSpec)) subsLastsUptoCard

/-- THE SECOND FORM's CARD OF 'rosterlaw19.SubsFull'. -/
def subsFullUptoCard : Claim7 := { stood := { row := subsFullUptoRow, standIns := [], harness := (true, "20d72eddb7975c7f0bc9d78f90e18eafb3370e2c8e01c682c75c2b8728d06861"), looks := true }, kinds := [], alts := [], laidByText := true, laidKinds := [.data, .pinned], laidTests := true, laidLooks := .later }
def SubsFullUptoCardSaid : Prop := Claim7.holds Tryz.pinned (.plain (OpenSpec.upto subsFullSpec)) subsFullUptoCard

/-- THE SECOND FORM's CARD OF 'rosterlaw19.SubsApart'. -/
def subsApartUptoCard : Claim7 := { stood := { row := subsApartUptoRow, standIns := [], harness := (true, "20d72eddb7975c7f0bc9d78f90e18eafb3370e2c8e01c682c75c2b8728d06861"), looks := true }, kinds := [], alts := [], laidByText := true, laidKinds := [.data, .pinned], laidTests := true, laidLooks := .later }
def SubsApartUptoCardSaid : Prop := Claim7.holds Tryz.pinned (.plain (OpenSpec.upto subsApartSpec)) subsApartUptoCard

/-- THE SECOND FORM's CARD OF 'rosterlaw19.SubsEnds'. -/
def subsEndsUptoCard : Claim7 := { stood := { row := subsEndsUptoRow, standIns := [], harness := (true, "20d72eddb7975c7f0bc9d78f90e18eafb3370e2c8e01c682c75c2b8728d06861"), looks := true }, kinds := [], alts := [], laidByText := true, laidKinds := [.data, .pinned], laidTests := true, laidLooks := .later }
def SubsEndsUptoCardSaid : Prop := Claim7.holds Tryz.pinned (.plain (OpenSpec.upto subsEndsSpec)) subsEndsUptoCard

/-- THE SECOND FORM's CARD OF 'rosterlaw19.SubsPlays'. -/
def subsPlaysUptoCard : Claim7 := { stood := { row := subsPlaysUptoRow, standIns := [], harness := (true, "20d72eddb7975c7f0bc9d78f90e18eafb3370e2c8e01c682c75c2b8728d06861"), looks := true }, kinds := [], alts := [], laidByText := true, laidKinds := [.data, .pinned], laidTests := true, laidLooks := .later }
def SubsPlaysUptoCardSaid : Prop := Claim7.holds Tryz.pinned (.plain (OpenSpec.upto subsPlaysSpec)) subsPlaysUptoCard

/-- THE SECOND FORM's CARD OF 'rosterlaw19.SubsNobody'. -/
def subsNobodyUptoCard : Claim7 := { stood := { row := subsNobodyUptoRow, standIns := [], harness := (true, "20d72eddb7975c7f0bc9d78f90e18eafb3370e2c8e01c682c75c2b8728d06861"), looks := true }, kinds := [], alts := [], laidByText := true, laidKinds := [.data, .pinned], laidTests := true, laidLooks := .later }
def SubsNobodyUptoCardSaid : Prop := Claim7.holds Tryz.pinned (.plain (OpenSpec.upto subsNobodySpec)) subsNobodyUptoCard
end Rows
end Go.Proofs.YthkadehlclcggaaGreatDoor

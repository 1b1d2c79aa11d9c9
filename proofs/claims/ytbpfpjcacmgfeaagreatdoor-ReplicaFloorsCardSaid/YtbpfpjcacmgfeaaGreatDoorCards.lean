/-
  DERIVED. GIVEN WITH THE SEED: THE CARDS: each row of YtbpfpjcacmgfeaaGreatDoorRows.lean that lists a variable, with what it lists TIED to the program's text (the seventh form; the later family's looks); each row that meets fmt, with fmt's text TOLD by the authors' own Lean function (tested against real Go, not proved from fmt's source: count such statements apart). THE CARD IS WHAT COUNTS. Prove the row's statement (the work); the ties are given (YtbpfpjcacmgfeaaGreatDoorTie.lean); close each card by the builder's one call (the guide's Derived/Test/ToyasCard.lean, 'card_holds'). Laid BY PROGRAM, IN A SANDBOX (cutbox-door.mjs). By AI agents, Wed Nov 11 2026. No macro, syntax, notation, axiom, sorry.
-/
import Derived.Test.YtbpfpjcacmgfeaaGreatDoorRows
import GoSem.ClaimSeven
namespace Go.Proofs.YtbpfpjcacmgfeaaGreatDoor
namespace Rows

/-- THE TIED CARD OF 'gavellaw20.ReplicaFloors'. -/
def replicaFloorsCard : Claim7 := { stood := { row := replicaFloorsRow, standIns := [], harness := (true, "65ca4ed468d32001f66c5ece9a73d94e62db90ff4ef37bea01eba7519a4a0d33"), looks := true }, kinds := [], alts := [], laidByText := true, laidKinds := [.data, .data, .data, .data, .pinned], laidTests := true, laidLooks := .later }
def ReplicaFloorsCardSaid : Prop := Claim7.holds Tryz.pinned (.plain (OpenSpec.ofChange replicaFloorsSpec)) replicaFloorsCard

/-- THE TIED CARD OF 'gavellaw20.ReplicaAgain'. -/
def replicaAgainCard : Claim7 := { stood := { row := replicaAgainRow, standIns := [], harness := (true, "65ca4ed468d32001f66c5ece9a73d94e62db90ff4ef37bea01eba7519a4a0d33"), looks := true }, kinds := [], alts := [], laidByText := true, laidKinds := [.data, .data, .data, .data, .pinned], laidTests := true, laidLooks := .later }
def ReplicaAgainCardSaid : Prop := Claim7.holds Tryz.pinned (.plain (OpenSpec.ofChange replicaAgainSpec)) replicaAgainCard

/-- THE TIED CARD OF 'gavellaw20.ReplicaNews'. -/
def replicaNewsCard : Claim7 := { stood := { row := replicaNewsRow, standIns := [], harness := (true, "65ca4ed468d32001f66c5ece9a73d94e62db90ff4ef37bea01eba7519a4a0d33"), looks := true }, kinds := [], alts := [], laidByText := true, laidKinds := [.data, .data, .data, .data, .pinned], laidTests := true, laidLooks := .later }
def ReplicaNewsCardSaid : Prop := Claim7.holds Tryz.pinned (.plain (OpenSpec.ofChange replicaNewsSpec)) replicaNewsCard

/-- THE SECOND FORM's CARD OF 'gavellaw20.ReplicaFloors'. -/
def replicaFloorsUptoCard : Claim7 := { stood := { row := replicaFloorsUptoRow, standIns := [], harness := (true, "65ca4ed468d32001f66c5ece9a73d94e62db90ff4ef37bea01eba7519a4a0d33"), looks := true }, kinds := [], alts := [], laidByText := true, laidKinds := [.data, .data, .data, .data, .pinned], laidTests := true, laidLooks := .later }
def ReplicaFloorsUptoCardSaid : Prop := Claim7.holds Tryz.pinned (.plain (OpenSpec.upto replicaFloorsSpec)) replicaFloorsUptoCard

/-- THE SECOND FORM's CARD OF 'gavellaw20.ReplicaAgain'. -/
def replicaAgainUptoCard : Claim7 := { stood := { row := replicaAgainUptoRow, standIns := [], harness := (true, "65ca4ed468d32001f66c5ece9a73d94e62db90ff4ef37bea01eba7519a4a0d33"), looks := true }, kinds := [], alts := [], laidByText := true, laidKinds := [.data, .data, .data, .data, .pinned], laidTests := true, laidLooks := .later }
def ReplicaAgainUptoCardSaid : Prop := Claim7.holds Tryz.pinned (.plain (OpenSpec.upto replicaAgainSpec)) replicaAgainUptoCard

/-- THE SECOND FORM's CARD OF 'gavellaw20.ReplicaNews'. -/
def replicaNewsUptoCard : Claim7 := { stood := { row := replicaNewsUptoRow, standIns := [], harness := (true, "65ca4ed468d32001f66c5ece9a73d94e62db90ff4ef37bea01eba7519a4a0d33"), looks := true }, kinds := [], alts := [], laidByText := true, laidKinds := [.data, .data, .data, .data, .pinned], laidTests := true, laidLooks := .later }
def ReplicaNewsUptoCardSaid : Prop := Claim7.holds Tryz.pinned (.plain (OpenSpec.upto replicaNewsSpec)) replicaNewsUptoCard
end Rows
end Go.Proofs.YtbpfpjcacmgfeaaGreatDoor

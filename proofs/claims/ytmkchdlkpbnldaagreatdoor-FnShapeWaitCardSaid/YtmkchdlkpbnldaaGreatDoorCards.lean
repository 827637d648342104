/-
  DERIVED. GIVEN WITH THE SEED: THE CARDS: each row of YtmkchdlkpbnldaaGreatDoorRows.lean that lists a variable, with what it lists TIED to the program's text (the seventh form; the later family's looks); each row that meets fmt, with fmt's text TOLD by the authors' own Lean function (tested against real Go, not proved from fmt's source: count such statements apart). THE CARD IS WHAT COUNTS. Prove the row's statement (the work); the ties are given (YtmkchdlkpbnldaaGreatDoorTie.lean); close each card by the builder's one call (the guide's Derived/Test/ToyasCard.lean, 'card_holds'). Laid BY PROGRAM, IN A SANDBOX (cutbox-door.mjs). By AI agents, Wed Nov 11 2026. No macro, syntax, notation, axiom, sorry.
-/
import Derived.Test.YtmkchdlkpbnldaaGreatDoorRows
import GoSem.ClaimSeven
namespace Go.Proofs.YtmkchdlkpbnldaaGreatDoor
namespace Rows

/-- THE TIED CARD OF 'laws.FnShapeTwice'. -/
def fnShapeTwiceCard : Claim7 := { stood := { row := fnShapeTwiceRow, standIns := [], harness := (true, "dcc1b087d1e69bb8eeb946dc1cbffebf23c1c280d13026eb738e4e2740b32e18"), looks := false }, kinds := [], alts := [], laidByText := true, laidKinds := [.data], laidTests := true, laidLooks := .later }
def FnShapeTwiceCardSaid : Prop := Claim7.holds Tryz.pinned (.plain (OpenSpec.ofChange fnShapeTwiceSpec)) fnShapeTwiceCard

/-- THE TIED CARD OF 'laws.FnShapeWait'. -/
def fnShapeWaitCard : Claim7 := { stood := { row := fnShapeWaitRow, standIns := [], harness := (true, "dcc1b087d1e69bb8eeb946dc1cbffebf23c1c280d13026eb738e4e2740b32e18"), looks := false }, kinds := [], alts := [], laidByText := true, laidKinds := [.data], laidTests := true, laidLooks := .later }
def FnShapeWaitCardSaid : Prop := Claim7.holds Tryz.pinned (.plain (OpenSpec.ofChange fnShapeWaitSpec)) fnShapeWaitCard

/-- THE TIED CARD OF 'laws.FnShapeLate'. -/
def fnShapeLateCard : Claim7 := { stood := { row := fnShapeLateRow, standIns := [], harness := (true, "dcc1b087d1e69bb8eeb946dc1cbffebf23c1c280d13026eb738e4e2740b32e18"), looks := false }, kinds := [], alts := [], laidByText := true, laidKinds := [.data], laidTests := true, laidLooks := .later }
def FnShapeLateCardSaid : Prop := Claim7.holds Tryz.pinned (.plain (OpenSpec.ofChange fnShapeLateSpec)) fnShapeLateCard

/-- THE TIED CARD OF 'laws.FnShapeLoose'. -/
def fnShapeLooseCard : Claim7 := { stood := { row := fnShapeLooseRow, standIns := [], harness := (true, "dcc1b087d1e69bb8eeb946dc1cbffebf23c1c280d13026eb738e4e2740b32e18"), looks := false }, kinds := [], alts := [], laidByText := true, laidKinds := [.data], laidTests := true, laidLooks := .later }
def FnShapeLooseCardSaid : Prop := Claim7.holds Tryz.pinned (.plain (OpenSpec.ofChange fnShapeLooseSpec)) fnShapeLooseCard

/-- THE TIED CARD OF 'laws.FnShapeStrict'. -/
def fnShapeStrictCard : Claim7 := { stood := { row := fnShapeStrictRow, standIns := [], harness := (true, "dcc1b087d1e69bb8eeb946dc1cbffebf23c1c280d13026eb738e4e2740b32e18"), looks := false }, kinds := [], alts := [], laidByText := true, laidKinds := [.data], laidTests := true, laidLooks := .later }
def FnShapeStrictCardSaid : Prop := Claim7.holds Tryz.pinned (.plain (OpenSpec.ofChange fnShapeStrictSpec)) fnShapeStrictCard

/-- THE TIED CARD OF 'laws.FnShapeWalls'. -/
def fnShapeWallsCard : Claim7 := { stood := { row := fnShapeWallsRow, standIns := [], harness := (true, "dcc1b087d1e69bb8eeb946dc1cbffebf23c1c280d13026eb738e4e2740b32e18"), looks := false }, kinds := [], alts := [], laidByText := true, laidKinds := [.data], laidTests := true, laidLooks := .later }
def FnShapeWallsCardSaid : Prop := Claim7.holds Tryz.pinned (.plain (OpenSpec.ofChange fnShapeWallsSpec)) fnShapeWallsCard

/-- THE SECOND FORM's CARD OF 'laws.FnShapeTwice'. -/
def fnShapeTwiceUptoCard : Claim7 := { stood := { row := fnShapeTwiceUptoRow, standIns := [], harness := (true, "dcc1b087d1e69bb8eeb946dc1cbffebf23c1c280d13026eb738e4e2740b32e18"), looks := false }, kinds := [], alts := [], laidByText := true, laidKinds := [.data], laidTests := true, laidLooks := .later }
def FnShapeTwiceUptoCardSaid : Prop := Claim7.holds Tryz.pinned (.plain (OpenSpec.upto fnShapeTwiceSpec)) fnShapeTwiceUptoCard

/-- THE SECOND FORM's CARD OF 'laws.FnShapeWait'. -/
def fnShapeWaitUptoCard : Claim7 := { stood := { row := fnShapeWaitUptoRow, standIns := [], harness := (true, "dcc1b087d1e69bb8eeb946dc1cbffebf23c1c280d13026eb738e4e2740b32e18"), looks := false }, kinds := [], alts := [], laidByText := true, laidKinds := [.data], laidTests := true, laidLooks := .later }
def FnShapeWaitUptoCardSaid : Prop := Claim7.holds Tryz.pinned (.plain (OpenSpec.upto fnShapeWaitSpec)) fnShapeWaitUptoCard

/-- THE SECOND FORM's CARD OF 'laws.FnShapeLate'. -/
def fnShapeLateUptoCard : Claim7 := { stood := { row := fnShapeLateUptoRow, standIns := [], harness := (true, "dcc1b087d1e69bb8eeb946dc1cbffebf23c1c280d13026eb738e4e2740b32e18"), looks := false }, kinds := [], alts := [], laidByText := true, laidKinds := [.data], laidTests := true, laidLooks := .later }
def FnShapeLateUptoCardSaid : Prop := Claim7.holds Tryz.pinned (.plain (OpenSpec.upto fnShapeLateSpec)) fnShapeLateUptoCard

/-- THE SECOND FORM's CARD OF 'laws.FnShapeLoose'. -/
def fnShapeLooseUptoCard : Claim7 := { stood := { row := fnShapeLooseUptoRow, standIns := [], harness := (true, "dcc1b087d1e69bb8eeb946dc1cbffebf23c1c280d13026eb738e4e2740b32e18"), looks := false }, kinds := [], alts := [], laidByText := true, laidKinds := [.data], laidTests := true, laidLooks := .later }
def FnShapeLooseUptoCardSaid : Prop := Claim7.holds Tryz.pinned (.plain (OpenSpec.upto fnShapeLooseSpec)) fnShapeLooseUptoCard

/-- THE SECOND FORM's CARD OF 'laws.FnShapeStrict'. -/
def fnShapeStrictUptoCard : Claim7 := { stood := { row := fnShapeStrictUptoRow, standIns := [], harness := (true, "dcc1b087d1e69bb8eeb946dc1cbffebf23c1c280d13026eb738e4e2740b32e18"), looks := false }, kinds := [], alts := [], laidByText := true, laidKinds := [.data], laidTests := true, laidLooks := .later }
def FnShapeStrictUptoCardSaid : Prop := Claim7.holds Tryz.pinned (.plain (OpenSpec.upto fnShapeStrictSpec)) fnShapeStrictUptoCard

/-- THE SECOND FORM's CARD OF 'laws.FnShapeWalls'. -/
def fnShapeWallsUptoCard : Claim7 := { stood := { row := fnShapeWallsUptoRow, standIns := [], harness := (true, "dcc1b087d1e69bb8eeb946dc1cbffebf23c1c280d13026eb738e4e2740b32e18"), looks := false }, kinds := [], alts := [], laidByText := true, laidKinds := [.data], laidTests := true, laidLooks := .later }
def FnShapeWallsUptoCardSaid : Prop := Claim7.holds Tryz.pinned (.plain (OpenSpec.upto fnShapeWallsSpec)) fnShapeWallsUptoCard
end Rows
end Go.Proofs.YtmkchdlkpbnldaaGreatDoor

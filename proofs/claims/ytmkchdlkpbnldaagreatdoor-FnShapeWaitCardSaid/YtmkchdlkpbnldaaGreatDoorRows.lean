/-
  NARROWER THAN 'FOR EVERY INPUT', by the rows' own cells (each row's printed sentence says how): FnShapeTwice: laid · FnShapeWait: laid · FnShapeLate: laid · FnShapeLoose: laid · FnShapeStrict: laid · FnShapeWalls: laid.
  DERIVED. THE GIVEN ROWS OF THIS SEAT. 6 by the template 'for every input the law returns true; each argument reads behind the call as it read before'; 0 by the template 'total and deterministic' (their statements: YtmkchdlkpbnldaaGreatDoorTotals.lean).
  GIVEN WITH THE SEED: the statements are not yours to turn. If you find one false, say at which input.
  Laid BY PROGRAM, IN A SANDBOX (cutbox-rows.mjs): the forced cells as the released guide's own fill.sh prints them over the translation ada22300f6b8e5a4… (all of the seat's roots in one cut). By AI agents, Wed Nov 11 2026. No macro, syntax, notation, axiom, sorry.
-/
import Derived.Test.YtmkchdlkpbnldaaGreatDoorChecked
import GoSem.Claim
import GoSem.ClaimJoined
import GoSem.ClaimMapViews
import Derived.JoinedTies
import Derived.KernelRfl
namespace Go.Proofs.YtmkchdlkpbnldaaGreatDoor
/- THE CELL 'sum', in the pinned program and in every row, IS THE sha256 OF THE DUMP (.gsa) THAT YtmkchdlkpbnldaaGreatDoorProg.lean LOADS. Nothing in Lean hashes anything: it is a label: what it is worth is what the hold of that sum in a sandbox is worth. -/
noncomputable def Tryz.pinned : Pinned := { name := "ytmkchdlkpbnldaagreatdoor", sum := "ada22300f6b8e5a45d76ddad55bf6ef26fc61a244284343290f61d63471f67f6", checked := Tryz.checked }
namespace Rows
def none {H : Type} : Left H := { results := [], args := [] }

/- WHAT THE LISTED PACKAGE-LEVEL VARIABLES READ AS WHEN THE CALL BEGINS. Each datum BY PROGRAM (the guide's laid-datum.mjs) off the statement by which the dump's own 'gosem.cut.vars' lays the variable. In a bare row this is a premise. The card (YtmkchdlkpbnldaaGreatDoorCards.lean) ties it to the program's text. -/
def laid_math_bits_deBruijn64tab {H : Type} : DataW H := .agg [.lit (.int .u8 0), .lit (.int .u8 1), .lit (.int .u8 56), .lit (.int .u8 2), .lit (.int .u8 57), .lit (.int .u8 49), .lit (.int .u8 28), .lit (.int .u8 3), .lit (.int .u8 61), .lit (.int .u8 58), .lit (.int .u8 42), .lit (.int .u8 50), .lit (.int .u8 38), .lit (.int .u8 29), .lit (.int .u8 17), .lit (.int .u8 4), .lit (.int .u8 62), .lit (.int .u8 47), .lit (.int .u8 59), .lit (.int .u8 36), .lit (.int .u8 45), .lit (.int .u8 43), .lit (.int .u8 51), .lit (.int .u8 22), .lit (.int .u8 53), .lit (.int .u8 39), .lit (.int .u8 33), .lit (.int .u8 30), .lit (.int .u8 24), .lit (.int .u8 18), .lit (.int .u8 12), .lit (.int .u8 5), .lit (.int .u8 63), .lit (.int .u8 55), .lit (.int .u8 48), .lit (.int .u8 27), .lit (.int .u8 60), .lit (.int .u8 41), .lit (.int .u8 37), .lit (.int .u8 16), .lit (.int .u8 46), .lit (.int .u8 35), .lit (.int .u8 44), .lit (.int .u8 21), .lit (.int .u8 52), .lit (.int .u8 32), .lit (.int .u8 23), .lit (.int .u8 11), .lit (.int .u8 54), .lit (.int .u8 26), .lit (.int .u8 40), .lit (.int .u8 15), .lit (.int .u8 34), .lit (.int .u8 20), .lit (.int .u8 31), .lit (.int .u8 10), .lit (.int .u8 25), .lit (.int .u8 14), .lit (.int .u8 19), .lit (.int .u8 9), .lit (.int .u8 13), .lit (.int .u8 8), .lit (.int .u8 7), .lit (.int .u8 6)]

/-- 'laws.FnShapeTwice': WHATEVER THE INPUT: true; the input reads as it did. -/
def fnShapeTwiceSpec : ChangeSpec := { name := "fnShapeTwice", fn := fun _ => fun
  | [d1, d2] => { results := [.lit (.bool true)], args := [d1, d2] }
  | _ => none }
def fnShapeTwiceRow : OpenClaim := { program := "ytmkchdlkpbnldaagreatdoor", sum := "ada22300f6b8e5a45d76ddad55bf6ef26fc61a244284343290f61d63471f67f6", func := "loop.example/fathomline/laws.FnShapeTwice", spec := "fnShapeTwice", unfollowed := true, recurses := true, named := ["math/bits.deBruijn64tab"], apart := false, laid := [("math/bits.deBruijn64tab", laid_math_bits_deBruijn64tab)] }
def FnShapeTwiceSaid : Prop := fnShapeTwiceRow.holds Tryz.pinned (OpenSpec.ofChange fnShapeTwiceSpec)

/-- ITS FALSE NEIGHBOUR: 'it returns false'. Refute it at one input. -/
def fnShapeTwiceWrong : ChangeSpec := { name := "fnShapeTwice", fn := fun _ => fun
  | [d1, d2] => { results := [.lit (.bool false)], args := [d1, d2] }
  | _ => none }
def FnShapeTwiceWrongFalsely : Prop := fnShapeTwiceRow.holds Tryz.pinned (OpenSpec.ofChange fnShapeTwiceWrong)

/-- 'laws.FnShapeWait': WHATEVER THE INPUT: true; the input reads as it did. -/
def fnShapeWaitSpec : ChangeSpec := { name := "fnShapeWait", fn := fun _ => fun
  | [d1, d2] => { results := [.lit (.bool true)], args := [d1, d2] }
  | _ => none }
def fnShapeWaitRow : OpenClaim := { program := "ytmkchdlkpbnldaagreatdoor", sum := "ada22300f6b8e5a45d76ddad55bf6ef26fc61a244284343290f61d63471f67f6", func := "loop.example/fathomline/laws.FnShapeWait", spec := "fnShapeWait", unfollowed := true, recurses := true, named := ["math/bits.deBruijn64tab"], apart := false, laid := [("math/bits.deBruijn64tab", laid_math_bits_deBruijn64tab)] }
def FnShapeWaitSaid : Prop := fnShapeWaitRow.holds Tryz.pinned (OpenSpec.ofChange fnShapeWaitSpec)

/-- ITS FALSE NEIGHBOUR: 'it returns false'. Refute it at one input. -/
def fnShapeWaitWrong : ChangeSpec := { name := "fnShapeWait", fn := fun _ => fun
  | [d1, d2] => { results := [.lit (.bool false)], args := [d1, d2] }
  | _ => none }
def FnShapeWaitWrongFalsely : Prop := fnShapeWaitRow.holds Tryz.pinned (OpenSpec.ofChange fnShapeWaitWrong)

/-- 'laws.FnShapeLate': WHATEVER THE INPUT: true; the input reads as it did. -/
def fnShapeLateSpec : ChangeSpec := { name := "fnShapeLate", fn := fun _ => fun
  | [d] => { results := [.lit (.bool true)], args := [d] }
  | _ => none }
def fnShapeLateRow : OpenClaim := { program := "ytmkchdlkpbnldaagreatdoor", sum := "ada22300f6b8e5a45d76ddad55bf6ef26fc61a244284343290f61d63471f67f6", func := "loop.example/fathomline/laws.FnShapeLate", spec := "fnShapeLate", unfollowed := true, recurses := true, named := ["math/bits.deBruijn64tab"], apart := false, laid := [("math/bits.deBruijn64tab", laid_math_bits_deBruijn64tab)] }
def FnShapeLateSaid : Prop := fnShapeLateRow.holds Tryz.pinned (OpenSpec.ofChange fnShapeLateSpec)

/-- ITS FALSE NEIGHBOUR: 'it returns false'. Refute it at one input. -/
def fnShapeLateWrong : ChangeSpec := { name := "fnShapeLate", fn := fun _ => fun
  | [d] => { results := [.lit (.bool false)], args := [d] }
  | _ => none }
def FnShapeLateWrongFalsely : Prop := fnShapeLateRow.holds Tryz.pinned (OpenSpec.ofChange fnShapeLateWrong)

/-- 'laws.FnShapeLoose': WHATEVER THE INPUT: true; the input reads as it did. -/
def fnShapeLooseSpec : ChangeSpec := { name := "fnShapeLoose", fn := fun _ => fun
  | [d] => { results := [.lit (.bool true)], args := [d] }
  | _ => none }
def fnShapeLooseRow : OpenClaim := { program := "ytmkchdlkpbnldaagreatdoor", sum := "ada22300f6b8e5a45d76ddad55bf6ef26fc61a244284343290f61d63471f67f6", func := "loop.example/fathomline/laws.FnShapeLoose", spec := "fnShapeLoose", unfollowed := true, recurses := true, named := ["math/bits.deBruijn64tab"], apart := false, laid := [("math/bits.deBruijn64tab", laid_math_bits_deBruijn64tab)] }
def FnShapeLooseSaid : Prop := fnShapeLooseRow.holds Tryz.pinned (OpenSpec.ofChange fnShapeLooseSpec)

/-- ITS FALSE NEIGHBOUR: 'it returns false'. Refute it at one input. -/
def fnShapeLooseWrong : ChangeSpec := { name := "fnShapeLoose", fn := fun _ => fun
  | [d] => { results := [.lit (.bool false)], args := [d] }
  | _ => none }
def FnShapeLooseWrongFalsely : Prop := fnShapeLooseRow.holds Tryz.pinned (OpenSpec.ofChange fnShapeLooseWrong)

/-- 'laws.FnShapeStrict': WHATEVER THE INPUT: true; the input reads as it did. -/
def fnShapeStrictSpec : ChangeSpec := { name := "fnShapeStrict", fn := fun _ => fun
  | [d] => { results := [.lit (.bool true)], args := [d] }
  | _ => none }
def fnShapeStrictRow : OpenClaim := { program := "ytmkchdlkpbnldaagreatdoor", sum := "ada22300f6b8e5a45d76ddad55bf6ef26fc61a244284343290f61d63471f67f6", func := "loop.example/fathomline/laws.FnShapeStrict", spec := "fnShapeStrict", unfollowed := true, recurses := true, named := ["math/bits.deBruijn64tab"], apart := false, laid := [("math/bits.deBruijn64tab", laid_math_bits_deBruijn64tab)] }
def FnShapeStrictSaid : Prop := fnShapeStrictRow.holds Tryz.pinned (OpenSpec.ofChange fnShapeStrictSpec)

/-- ITS FALSE NEIGHBOUR: 'it returns false'. Refute it at one input. -/
def fnShapeStrictWrong : ChangeSpec := { name := "fnShapeStrict", fn := fun _ => fun
  | [d] => { results := [.lit (.bool false)], args := [d] }
  | _ => none }
def FnShapeStrictWrongFalsely : Prop := fnShapeStrictRow.holds Tryz.pinned (OpenSpec.ofChange fnShapeStrictWrong)

/-- 'laws.FnShapeWalls': WHATEVER THE INPUT: true; the input reads as it did. -/
def fnShapeWallsSpec : ChangeSpec := { name := "fnShapeWalls", fn := fun _ => fun
  | [d1, d2] => { results := [.lit (.bool true)], args := [d1, d2] }
  | _ => none }
def fnShapeWallsRow : OpenClaim := { program := "ytmkchdlkpbnldaagreatdoor", sum := "ada22300f6b8e5a45d76ddad55bf6ef26fc61a244284343290f61d63471f67f6", func := "loop.example/fathomline/laws.FnShapeWalls", spec := "fnShapeWalls", unfollowed := true, recurses := true, named := ["math/bits.deBruijn64tab"], apart := false, laid := [("math/bits.deBruijn64tab", laid_math_bits_deBruijn64tab)] }
def FnShapeWallsSaid : Prop := fnShapeWallsRow.holds Tryz.pinned (OpenSpec.ofChange fnShapeWallsSpec)

/-- ITS FALSE NEIGHBOUR: 'it returns false'. Refute it at one input. -/
def fnShapeWallsWrong : ChangeSpec := { name := "fnShapeWalls", fn := fun _ => fun
  | [d1, d2] => { results := [.lit (.bool false)], args := [d1, d2] }
  | _ => none }
def FnShapeWallsWrongFalsely : Prop := fnShapeWallsRow.holds Tryz.pinned (OpenSpec.ofChange fnShapeWallsWrong)

/- THE SECOND FORM. 'bulk': how many values and letters a reading holds, each counted each time it is reached (what is shared counts as often as it is met; a slice's spare places count too). A statement '..UptoSaid' is the law's where the arguments, and the package variables that the reading takes, are together of bulk at most 1048576: NARROWER than '..Said'. Prove '..Said' where nothing that the law and all that it calls make is longer than what came in: it says more and counts as full. Else prove '..UptoSaid'. A law counts once. -/
mutual
def uptoBulk {H : Type} : DataW H → Nat
  | .lit (.string bytes) => bytes.length + 1
  | .lit _ => 1
  | .nil => 1
  | .ptr d => uptoBulk d + 1
  | .slice elems spare => uptoBulkAll elems + uptoBulkAll spare + 1
  | .agg parts => uptoBulkAll parts + 1
  | .iface _ d => uptoBulk d + 1
  | .map entries => uptoBulkEntries entries + 1
  | .held _ => 1
def uptoBulkAll {H : Type} : List (DataW H) → Nat
  | [] => 0
  | d :: r => uptoBulk d + uptoBulkAll r
def uptoBulkEntries {H : Type} : List (Lit × DataW H) → Nat
  | [] => 0
  | x :: r => uptoBulkEntry x + uptoBulkEntries r
def uptoBulkEntry {H : Type} : Lit × DataW H → Nat
  | (.string bytes, d) => bytes.length + uptoBulk d + 1
  | (_, d) => uptoBulk d + 1
 end
def uptoSmall : (H : Type) → List (DataW H) → Bool := fun _ ds => decide (uptoBulkAll ds ≤ 1048576)
def OpenSpec.upto (s : _root_.Go.ChangeSpec) : _root_.Go.OpenSpec := { _root_.Go.OpenSpec.ofChange s with cond := some uptoSmall }

/-- 'laws.FnShapeTwice', WHERE WHAT IT READS IS OF BULK AT MOST 1048576: true; the input reads as it did. -/
def fnShapeTwiceUptoRow : OpenClaim := { program := "ytmkchdlkpbnldaagreatdoor", sum := "ada22300f6b8e5a45d76ddad55bf6ef26fc61a244284343290f61d63471f67f6", func := "loop.example/fathomline/laws.FnShapeTwice", spec := "fnShapeTwice", unfollowed := true, recurses := true, named := ["math/bits.deBruijn64tab"], apart := false, laid := [("math/bits.deBruijn64tab", laid_math_bits_deBruijn64tab)], narrowed := true }
def FnShapeTwiceUptoSaid : Prop := fnShapeTwiceUptoRow.holds Tryz.pinned (OpenSpec.upto fnShapeTwiceSpec)

/-- 'laws.FnShapeWait', WHERE WHAT IT READS IS OF BULK AT MOST 1048576: true; the input reads as it did. -/
def fnShapeWaitUptoRow : OpenClaim := { program := "ytmkchdlkpbnldaagreatdoor", sum := "ada22300f6b8e5a45d76ddad55bf6ef26fc61a244284343290f61d63471f67f6", func := "loop.example/fathomline/laws.FnShapeWait", spec := "fnShapeWait", unfollowed := true, recurses := true, named := ["math/bits.deBruijn64tab"], apart := false, laid := [("math/bits.deBruijn64tab", laid_math_bits_deBruijn64tab)], narrowed := true }
def FnShapeWaitUptoSaid : Prop := fnShapeWaitUptoRow.holds Tryz.pinned (OpenSpec.upto fnShapeWaitSpec)

/-- 'laws.FnShapeLate', WHERE WHAT IT READS IS OF BULK AT MOST 1048576: true; the input reads as it did. -/
def fnShapeLateUptoRow : OpenClaim := { program := "ytmkchdlkpbnldaagreatdoor", sum := "ada22300f6b8e5a45d76ddad55bf6ef26fc61a244284343290f61d63471f67f6", func := "loop.example/fathomline/laws.FnShapeLate", spec := "fnShapeLate", unfollowed := true, recurses := true, named := ["math/bits.deBruijn64tab"], apart := false, laid := [("math/bits.deBruijn64tab", laid_math_bits_deBruijn64tab)], narrowed := true }
def FnShapeLateUptoSaid : Prop := fnShapeLateUptoRow.holds Tryz.pinned (OpenSpec.upto fnShapeLateSpec)

/-- 'laws.FnShapeLoose', WHERE WHAT IT READS IS OF BULK AT MOST 1048576: true; the input reads as it did. -/
def fnShapeLooseUptoRow : OpenClaim := { program := "ytmkchdlkpbnldaagreatdoor", sum := "ada22300f6b8e5a45d76ddad55bf6ef26fc61a244284343290f61d63471f67f6", func := "loop.example/fathomline/laws.FnShapeLoose", spec := "fnShapeLoose", unfollowed := true, recurses := true, named := ["math/bits.deBruijn64tab"], apart := false, laid := [("math/bits.deBruijn64tab", laid_math_bits_deBruijn64tab)], narrowed := true }
def FnShapeLooseUptoSaid : Prop := fnShapeLooseUptoRow.holds Tryz.pinned (OpenSpec.upto fnShapeLooseSpec)

/-- 'laws.FnShapeStrict', WHERE WHAT IT READS IS OF BULK AT MOST 1048576: true; the input reads as it did. -/
def fnShapeStrictUptoRow : OpenClaim := { program := "ytmkchdlkpbnldaagreatdoor", sum := "ada22300f6b8e5a45d76ddad55bf6ef26fc61a244284343290f61d63471f67f6", func := "loop.example/fathomline/laws.FnShapeStrict", spec := "fnShapeStrict", unfollowed := true, recurses := true, named := ["math/bits.deBruijn64tab"], apart := false, laid := [("math/bits.deBruijn64tab", laid_math_bits_deBruijn64tab)], narrowed := true }
def FnShapeStrictUptoSaid : Prop := fnShapeStrictUptoRow.holds Tryz.pinned (OpenSpec.upto fnShapeStrictSpec)

/-- 'laws.FnShapeWalls', WHERE WHAT IT READS IS OF BULK AT MOST 1048576: true; the input reads as it did. -/
def fnShapeWallsUptoRow : OpenClaim := { program := "ytmkchdlkpbnldaagreatdoor", sum := "ada22300f6b8e5a45d76ddad55bf6ef26fc61a244284343290f61d63471f67f6", func := "loop.example/fathomline/laws.FnShapeWalls", spec := "fnShapeWalls", unfollowed := true, recurses := true, named := ["math/bits.deBruijn64tab"], apart := false, laid := [("math/bits.deBruijn64tab", laid_math_bits_deBruijn64tab)], narrowed := true }
def FnShapeWallsUptoSaid : Prop := fnShapeWallsUptoRow.holds Tryz.pinned (OpenSpec.upto fnShapeWallsSpec)

end Rows
end Go.Proofs.YtmkchdlkpbnldaaGreatDoor

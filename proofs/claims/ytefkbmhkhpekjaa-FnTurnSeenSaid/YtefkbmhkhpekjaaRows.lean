/-
  No cell of these rows narrows 'for every input' (looked for: loops, veiled, ifaces, maps, wideKeys, modest, calm, conditions, laid).
  DERIVED. THE GIVEN ROWS OF THIS SEAT. 19 by the template 'for every input the law returns true; each argument reads behind the call as it read before'; 0 by the template 'total and deterministic' (their statements: YtefkbmhkhpekjaaTotals.lean).
  GIVEN WITH THE SEED: the statements are not yours to turn. If you find one false, say at which input.
  Laid BY PROGRAM, IN A SANDBOX (cutbox-rows.mjs): the forced cells as the released guide's own fill.sh prints them over the translation 89410626f234800f… (all of the seat's roots in one cut). By AI agents, Wed Nov 11 2026. No macro, syntax, notation, axiom, sorry.
-/
import Derived.Test.YtefkbmhkhpekjaaChecked
import GoSem.Claim
import GoSem.ClaimJoined
import GoSem.ClaimMapViews
import Derived.JoinedTies
import Derived.KernelRfl
namespace Go.Proofs.Ytefkbmhkhpekjaa
/- THE CELL 'sum', in the pinned program and in every row, IS THE sha256 OF THE DUMP (.gsa) THAT YtefkbmhkhpekjaaProg.lean LOADS. Nothing in Lean hashes anything: it is a label: what it is worth is what the hold of that sum in a sandbox is worth. -/
noncomputable def Try.pinned : Pinned := { name := "ytefkbmhkhpekjaa", sum := "89410626f234800f677f03f5ac8b99f8d7406db450ff8e2962929ba7e2c8e69d", checked := Try.checked }
namespace Rows
def none {H : Type} : Left H := { results := [], args := [] }

/-- 'laws.FnExactShapeOdd': WHATEVER THE INPUT: true; the input reads as it did. -/
def fnExactShapeOddSpec : ChangeSpec := { name := "fnExactShapeOdd", fn := fun _ => fun
  | [d] => { results := [.lit (.bool true)], args := [d] }
  | _ => none }
def fnExactShapeOddRow : OpenClaim := { program := "ytefkbmhkhpekjaa", sum := "89410626f234800f677f03f5ac8b99f8d7406db450ff8e2962929ba7e2c8e69d", func := "loop.example/fathomline/laws.FnExactShapeOdd", spec := "fnExactShapeOdd", unfollowed := true, recurses := true, apart := false }
def FnExactShapeOddSaid : Prop := fnExactShapeOddRow.holds Try.pinned (OpenSpec.ofChange fnExactShapeOddSpec)

/-- ITS FALSE NEIGHBOUR: 'it returns false'. Refute it at one input. -/
def fnExactShapeOddWrong : ChangeSpec := { name := "fnExactShapeOdd", fn := fun _ => fun
  | [d] => { results := [.lit (.bool false)], args := [d] }
  | _ => none }
def FnExactShapeOddWrongFalsely : Prop := fnExactShapeOddRow.holds Try.pinned (OpenSpec.ofChange fnExactShapeOddWrong)

/-- 'laws.FnShapeOf': WHATEVER THE INPUT: true; the input reads as it did. -/
def fnShapeOfSpec : ChangeSpec := { name := "fnShapeOf", fn := fun _ => fun
  | [d] => { results := [.lit (.bool true)], args := [d] }
  | _ => none }
def fnShapeOfRow : OpenClaim := { program := "ytefkbmhkhpekjaa", sum := "89410626f234800f677f03f5ac8b99f8d7406db450ff8e2962929ba7e2c8e69d", func := "loop.example/fathomline/laws.FnShapeOf", spec := "fnShapeOf", unfollowed := true, recurses := true, apart := false }
def FnShapeOfSaid : Prop := fnShapeOfRow.holds Try.pinned (OpenSpec.ofChange fnShapeOfSpec)

/-- ITS FALSE NEIGHBOUR: 'it returns false'. Refute it at one input. -/
def fnShapeOfWrong : ChangeSpec := { name := "fnShapeOf", fn := fun _ => fun
  | [d] => { results := [.lit (.bool false)], args := [d] }
  | _ => none }
def FnShapeOfWrongFalsely : Prop := fnShapeOfRow.holds Try.pinned (OpenSpec.ofChange fnShapeOfWrong)

/-- 'laws.FnExactShapeOf': WHATEVER THE INPUT: true; the input reads as it did. -/
def fnExactShapeOfSpec : ChangeSpec := { name := "fnExactShapeOf", fn := fun _ => fun
  | [d1, d2] => { results := [.lit (.bool true)], args := [d1, d2] }
  | _ => none }
def fnExactShapeOfRow : OpenClaim := { program := "ytefkbmhkhpekjaa", sum := "89410626f234800f677f03f5ac8b99f8d7406db450ff8e2962929ba7e2c8e69d", func := "loop.example/fathomline/laws.FnExactShapeOf", spec := "fnExactShapeOf", unfollowed := true, recurses := true, apart := false }
def FnExactShapeOfSaid : Prop := fnExactShapeOfRow.holds Try.pinned (OpenSpec.ofChange fnExactShapeOfSpec)

/-- ITS FALSE NEIGHBOUR: 'it returns false'. Refute it at one input. -/
def fnExactShapeOfWrong : ChangeSpec := { name := "fnExactShapeOf", fn := fun _ => fun
  | [d1, d2] => { results := [.lit (.bool false)], args := [d1, d2] }
  | _ => none }
def FnExactShapeOfWrongFalsely : Prop := fnExactShapeOfRow.holds Try.pinned (OpenSpec.ofChange fnExactShapeOfWrong)

/-- 'laws.FnShapePlain': WHATEVER THE INPUT: true; the input reads as it did. -/
def fnShapePlainSpec : ChangeSpec := { name := "fnShapePlain", fn := fun _ => fun
  | [d] => { results := [.lit (.bool true)], args := [d] }
  | _ => none }
def fnShapePlainRow : OpenClaim := { program := "ytefkbmhkhpekjaa", sum := "89410626f234800f677f03f5ac8b99f8d7406db450ff8e2962929ba7e2c8e69d", func := "loop.example/fathomline/laws.FnShapePlain", spec := "fnShapePlain", unfollowed := true, recurses := true, apart := false }
def FnShapePlainSaid : Prop := fnShapePlainRow.holds Try.pinned (OpenSpec.ofChange fnShapePlainSpec)

/-- ITS FALSE NEIGHBOUR: 'it returns false'. Refute it at one input. -/
def fnShapePlainWrong : ChangeSpec := { name := "fnShapePlain", fn := fun _ => fun
  | [d] => { results := [.lit (.bool false)], args := [d] }
  | _ => none }
def FnShapePlainWrongFalsely : Prop := fnShapePlainRow.holds Try.pinned (OpenSpec.ofChange fnShapePlainWrong)

/-- 'laws.FnShapeWallAll': WHATEVER THE INPUT: true; the input reads as it did. -/
def fnShapeWallAllSpec : ChangeSpec := { name := "fnShapeWallAll", fn := fun _ => fun
  | [d] => { results := [.lit (.bool true)], args := [d] }
  | _ => none }
def fnShapeWallAllRow : OpenClaim := { program := "ytefkbmhkhpekjaa", sum := "89410626f234800f677f03f5ac8b99f8d7406db450ff8e2962929ba7e2c8e69d", func := "loop.example/fathomline/laws.FnShapeWallAll", spec := "fnShapeWallAll", unfollowed := true, recurses := true, apart := false }
def FnShapeWallAllSaid : Prop := fnShapeWallAllRow.holds Try.pinned (OpenSpec.ofChange fnShapeWallAllSpec)

/-- ITS FALSE NEIGHBOUR: 'it returns false'. Refute it at one input. -/
def fnShapeWallAllWrong : ChangeSpec := { name := "fnShapeWallAll", fn := fun _ => fun
  | [d] => { results := [.lit (.bool false)], args := [d] }
  | _ => none }
def FnShapeWallAllWrongFalsely : Prop := fnShapeWallAllRow.holds Try.pinned (OpenSpec.ofChange fnShapeWallAllWrong)

/-- 'laws.FnTurnBeside': WHATEVER THE INPUT: true; the input reads as it did. -/
def fnTurnBesideSpec : ChangeSpec := { name := "fnTurnBeside", fn := fun _ => fun
  | [d] => { results := [.lit (.bool true)], args := [d] }
  | _ => none }
def fnTurnBesideRow : OpenClaim := { program := "ytefkbmhkhpekjaa", sum := "89410626f234800f677f03f5ac8b99f8d7406db450ff8e2962929ba7e2c8e69d", func := "loop.example/fathomline/laws.FnTurnBeside", spec := "fnTurnBeside", apart := false }
def FnTurnBesideSaid : Prop := fnTurnBesideRow.holds Try.pinned (OpenSpec.ofChange fnTurnBesideSpec)

/-- ITS FALSE NEIGHBOUR: 'it returns false'. Refute it at one input. -/
def fnTurnBesideWrong : ChangeSpec := { name := "fnTurnBeside", fn := fun _ => fun
  | [d] => { results := [.lit (.bool false)], args := [d] }
  | _ => none }
def FnTurnBesideWrongFalsely : Prop := fnTurnBesideRow.holds Try.pinned (OpenSpec.ofChange fnTurnBesideWrong)

/-- 'laws.FnTurnPlain': WHATEVER THE INPUT: true; the input reads as it did. -/
def fnTurnPlainSpec : ChangeSpec := { name := "fnTurnPlain", fn := fun _ => fun
  | [d] => { results := [.lit (.bool true)], args := [d] }
  | _ => none }
def fnTurnPlainRow : OpenClaim := { program := "ytefkbmhkhpekjaa", sum := "89410626f234800f677f03f5ac8b99f8d7406db450ff8e2962929ba7e2c8e69d", func := "loop.example/fathomline/laws.FnTurnPlain", spec := "fnTurnPlain", unfollowed := true, recurses := true, apart := false }
def FnTurnPlainSaid : Prop := fnTurnPlainRow.holds Try.pinned (OpenSpec.ofChange fnTurnPlainSpec)

/-- ITS FALSE NEIGHBOUR: 'it returns false'. Refute it at one input. -/
def fnTurnPlainWrong : ChangeSpec := { name := "fnTurnPlain", fn := fun _ => fun
  | [d] => { results := [.lit (.bool false)], args := [d] }
  | _ => none }
def FnTurnPlainWrongFalsely : Prop := fnTurnPlainRow.holds Try.pinned (OpenSpec.ofChange fnTurnPlainWrong)

/-- 'laws.FnExactTurnPlain': WHATEVER THE INPUT: true; the input reads as it did. -/
def fnExactTurnPlainSpec : ChangeSpec := { name := "fnExactTurnPlain", fn := fun _ => fun
  | [d] => { results := [.lit (.bool true)], args := [d] }
  | _ => none }
def fnExactTurnPlainRow : OpenClaim := { program := "ytefkbmhkhpekjaa", sum := "89410626f234800f677f03f5ac8b99f8d7406db450ff8e2962929ba7e2c8e69d", func := "loop.example/fathomline/laws.FnExactTurnPlain", spec := "fnExactTurnPlain", unfollowed := true, recurses := true, apart := false }
def FnExactTurnPlainSaid : Prop := fnExactTurnPlainRow.holds Try.pinned (OpenSpec.ofChange fnExactTurnPlainSpec)

/-- ITS FALSE NEIGHBOUR: 'it returns false'. Refute it at one input. -/
def fnExactTurnPlainWrong : ChangeSpec := { name := "fnExactTurnPlain", fn := fun _ => fun
  | [d] => { results := [.lit (.bool false)], args := [d] }
  | _ => none }
def FnExactTurnPlainWrongFalsely : Prop := fnExactTurnPlainRow.holds Try.pinned (OpenSpec.ofChange fnExactTurnPlainWrong)

/-- 'laws.FnExactTurnBeside': WHATEVER THE INPUT: true; the input reads as it did. -/
def fnExactTurnBesideSpec : ChangeSpec := { name := "fnExactTurnBeside", fn := fun _ => fun
  | [d1, d2] => { results := [.lit (.bool true)], args := [d1, d2] }
  | _ => none }
def fnExactTurnBesideRow : OpenClaim := { program := "ytefkbmhkhpekjaa", sum := "89410626f234800f677f03f5ac8b99f8d7406db450ff8e2962929ba7e2c8e69d", func := "loop.example/fathomline/laws.FnExactTurnBeside", spec := "fnExactTurnBeside", apart := false }
def FnExactTurnBesideSaid : Prop := fnExactTurnBesideRow.holds Try.pinned (OpenSpec.ofChange fnExactTurnBesideSpec)

/-- ITS FALSE NEIGHBOUR: 'it returns false'. Refute it at one input. -/
def fnExactTurnBesideWrong : ChangeSpec := { name := "fnExactTurnBeside", fn := fun _ => fun
  | [d1, d2] => { results := [.lit (.bool false)], args := [d1, d2] }
  | _ => none }
def FnExactTurnBesideWrongFalsely : Prop := fnExactTurnBesideRow.holds Try.pinned (OpenSpec.ofChange fnExactTurnBesideWrong)

/-- 'laws.FnTurnOk': WHATEVER THE INPUT: true; the input reads as it did. -/
def fnTurnOkSpec : ChangeSpec := { name := "fnTurnOk", fn := fun _ => fun
  | [d] => { results := [.lit (.bool true)], args := [d] }
  | _ => none }
def fnTurnOkRow : OpenClaim := { program := "ytefkbmhkhpekjaa", sum := "89410626f234800f677f03f5ac8b99f8d7406db450ff8e2962929ba7e2c8e69d", func := "loop.example/fathomline/laws.FnTurnOk", spec := "fnTurnOk", unfollowed := true, recurses := true, apart := false }
def FnTurnOkSaid : Prop := fnTurnOkRow.holds Try.pinned (OpenSpec.ofChange fnTurnOkSpec)

/-- ITS FALSE NEIGHBOUR: 'it returns false'. Refute it at one input. -/
def fnTurnOkWrong : ChangeSpec := { name := "fnTurnOk", fn := fun _ => fun
  | [d] => { results := [.lit (.bool false)], args := [d] }
  | _ => none }
def FnTurnOkWrongFalsely : Prop := fnTurnOkRow.holds Try.pinned (OpenSpec.ofChange fnTurnOkWrong)

/-- 'laws.FnTurnVals': WHATEVER THE INPUT: true; the input reads as it did. -/
def fnTurnValsSpec : ChangeSpec := { name := "fnTurnVals", fn := fun _ => fun
  | [d] => { results := [.lit (.bool true)], args := [d] }
  | _ => none }
def fnTurnValsRow : OpenClaim := { program := "ytefkbmhkhpekjaa", sum := "89410626f234800f677f03f5ac8b99f8d7406db450ff8e2962929ba7e2c8e69d", func := "loop.example/fathomline/laws.FnTurnVals", spec := "fnTurnVals", unfollowed := true, recurses := true, apart := false }
def FnTurnValsSaid : Prop := fnTurnValsRow.holds Try.pinned (OpenSpec.ofChange fnTurnValsSpec)

/-- ITS FALSE NEIGHBOUR: 'it returns false'. Refute it at one input. -/
def fnTurnValsWrong : ChangeSpec := { name := "fnTurnVals", fn := fun _ => fun
  | [d] => { results := [.lit (.bool false)], args := [d] }
  | _ => none }
def FnTurnValsWrongFalsely : Prop := fnTurnValsRow.holds Try.pinned (OpenSpec.ofChange fnTurnValsWrong)

/-- 'laws.FnTurnThreads': WHATEVER THE INPUT: true; the input reads as it did. -/
def fnTurnThreadsSpec : ChangeSpec := { name := "fnTurnThreads", fn := fun _ => fun
  | [d] => { results := [.lit (.bool true)], args := [d] }
  | _ => none }
def fnTurnThreadsRow : OpenClaim := { program := "ytefkbmhkhpekjaa", sum := "89410626f234800f677f03f5ac8b99f8d7406db450ff8e2962929ba7e2c8e69d", func := "loop.example/fathomline/laws.FnTurnThreads", spec := "fnTurnThreads", apart := false }
def FnTurnThreadsSaid : Prop := fnTurnThreadsRow.holds Try.pinned (OpenSpec.ofChange fnTurnThreadsSpec)

/-- ITS FALSE NEIGHBOUR: 'it returns false'. Refute it at one input. -/
def fnTurnThreadsWrong : ChangeSpec := { name := "fnTurnThreads", fn := fun _ => fun
  | [d] => { results := [.lit (.bool false)], args := [d] }
  | _ => none }
def FnTurnThreadsWrongFalsely : Prop := fnTurnThreadsRow.holds Try.pinned (OpenSpec.ofChange fnTurnThreadsWrong)

/-- 'laws.FnExactTurnThreads': WHATEVER THE INPUT: true; the input reads as it did. -/
def fnExactTurnThreadsSpec : ChangeSpec := { name := "fnExactTurnThreads", fn := fun _ => fun
  | [d1, d2] => { results := [.lit (.bool true)], args := [d1, d2] }
  | _ => none }
def fnExactTurnThreadsRow : OpenClaim := { program := "ytefkbmhkhpekjaa", sum := "89410626f234800f677f03f5ac8b99f8d7406db450ff8e2962929ba7e2c8e69d", func := "loop.example/fathomline/laws.FnExactTurnThreads", spec := "fnExactTurnThreads", apart := false }
def FnExactTurnThreadsSaid : Prop := fnExactTurnThreadsRow.holds Try.pinned (OpenSpec.ofChange fnExactTurnThreadsSpec)

/-- ITS FALSE NEIGHBOUR: 'it returns false'. Refute it at one input. -/
def fnExactTurnThreadsWrong : ChangeSpec := { name := "fnExactTurnThreads", fn := fun _ => fun
  | [d1, d2] => { results := [.lit (.bool false)], args := [d1, d2] }
  | _ => none }
def FnExactTurnThreadsWrongFalsely : Prop := fnExactTurnThreadsRow.holds Try.pinned (OpenSpec.ofChange fnExactTurnThreadsWrong)

/-- 'laws.FnTurnPlaces': WHATEVER THE INPUT: true; the input reads as it did. -/
def fnTurnPlacesSpec : ChangeSpec := { name := "fnTurnPlaces", fn := fun _ => fun
  | [d] => { results := [.lit (.bool true)], args := [d] }
  | _ => none }
def fnTurnPlacesRow : OpenClaim := { program := "ytefkbmhkhpekjaa", sum := "89410626f234800f677f03f5ac8b99f8d7406db450ff8e2962929ba7e2c8e69d", func := "loop.example/fathomline/laws.FnTurnPlaces", spec := "fnTurnPlaces", unfollowed := true, recurses := true, apart := false }
def FnTurnPlacesSaid : Prop := fnTurnPlacesRow.holds Try.pinned (OpenSpec.ofChange fnTurnPlacesSpec)

/-- ITS FALSE NEIGHBOUR: 'it returns false'. Refute it at one input. -/
def fnTurnPlacesWrong : ChangeSpec := { name := "fnTurnPlaces", fn := fun _ => fun
  | [d] => { results := [.lit (.bool false)], args := [d] }
  | _ => none }
def FnTurnPlacesWrongFalsely : Prop := fnTurnPlacesRow.holds Try.pinned (OpenSpec.ofChange fnTurnPlacesWrong)

/-- 'laws.FnTurnSame': WHATEVER THE INPUT: true; the input reads as it did. -/
def fnTurnSameSpec : ChangeSpec := { name := "fnTurnSame", fn := fun _ => fun
  | [d] => { results := [.lit (.bool true)], args := [d] }
  | _ => none }
def fnTurnSameRow : OpenClaim := { program := "ytefkbmhkhpekjaa", sum := "89410626f234800f677f03f5ac8b99f8d7406db450ff8e2962929ba7e2c8e69d", func := "loop.example/fathomline/laws.FnTurnSame", spec := "fnTurnSame", unfollowed := true, recurses := true, apart := false }
def FnTurnSameSaid : Prop := fnTurnSameRow.holds Try.pinned (OpenSpec.ofChange fnTurnSameSpec)

/-- ITS FALSE NEIGHBOUR: 'it returns false'. Refute it at one input. -/
def fnTurnSameWrong : ChangeSpec := { name := "fnTurnSame", fn := fun _ => fun
  | [d] => { results := [.lit (.bool false)], args := [d] }
  | _ => none }
def FnTurnSameWrongFalsely : Prop := fnTurnSameRow.holds Try.pinned (OpenSpec.ofChange fnTurnSameWrong)

/-- 'laws.FnExactTurnVals': WHATEVER THE INPUT: true; the input reads as it did. -/
def fnExactTurnValsSpec : ChangeSpec := { name := "fnExactTurnVals", fn := fun _ => fun
  | [d1, d2] => { results := [.lit (.bool true)], args := [d1, d2] }
  | _ => none }
def fnExactTurnValsRow : OpenClaim := { program := "ytefkbmhkhpekjaa", sum := "89410626f234800f677f03f5ac8b99f8d7406db450ff8e2962929ba7e2c8e69d", func := "loop.example/fathomline/laws.FnExactTurnVals", spec := "fnExactTurnVals", unfollowed := true, recurses := true, apart := false }
def FnExactTurnValsSaid : Prop := fnExactTurnValsRow.holds Try.pinned (OpenSpec.ofChange fnExactTurnValsSpec)

/-- ITS FALSE NEIGHBOUR: 'it returns false'. Refute it at one input. -/
def fnExactTurnValsWrong : ChangeSpec := { name := "fnExactTurnVals", fn := fun _ => fun
  | [d1, d2] => { results := [.lit (.bool false)], args := [d1, d2] }
  | _ => none }
def FnExactTurnValsWrongFalsely : Prop := fnExactTurnValsRow.holds Try.pinned (OpenSpec.ofChange fnExactTurnValsWrong)

/-- 'laws.FnExactTurnPlaces': WHATEVER THE INPUT: true; the input reads as it did. -/
def fnExactTurnPlacesSpec : ChangeSpec := { name := "fnExactTurnPlaces", fn := fun _ => fun
  | [d1, d2] => { results := [.lit (.bool true)], args := [d1, d2] }
  | _ => none }
def fnExactTurnPlacesRow : OpenClaim := { program := "ytefkbmhkhpekjaa", sum := "89410626f234800f677f03f5ac8b99f8d7406db450ff8e2962929ba7e2c8e69d", func := "loop.example/fathomline/laws.FnExactTurnPlaces", spec := "fnExactTurnPlaces", unfollowed := true, recurses := true, apart := false }
def FnExactTurnPlacesSaid : Prop := fnExactTurnPlacesRow.holds Try.pinned (OpenSpec.ofChange fnExactTurnPlacesSpec)

/-- ITS FALSE NEIGHBOUR: 'it returns false'. Refute it at one input. -/
def fnExactTurnPlacesWrong : ChangeSpec := { name := "fnExactTurnPlaces", fn := fun _ => fun
  | [d1, d2] => { results := [.lit (.bool false)], args := [d1, d2] }
  | _ => none }
def FnExactTurnPlacesWrongFalsely : Prop := fnExactTurnPlacesRow.holds Try.pinned (OpenSpec.ofChange fnExactTurnPlacesWrong)

/-- 'laws.FnTurnSeen': WHATEVER THE INPUT: true; the input reads as it did. -/
def fnTurnSeenSpec : ChangeSpec := { name := "fnTurnSeen", fn := fun _ => fun
  | [d] => { results := [.lit (.bool true)], args := [d] }
  | _ => none }
def fnTurnSeenRow : OpenClaim := { program := "ytefkbmhkhpekjaa", sum := "89410626f234800f677f03f5ac8b99f8d7406db450ff8e2962929ba7e2c8e69d", func := "loop.example/fathomline/laws.FnTurnSeen", spec := "fnTurnSeen", unfollowed := true, recurses := true, apart := false }
def FnTurnSeenSaid : Prop := fnTurnSeenRow.holds Try.pinned (OpenSpec.ofChange fnTurnSeenSpec)

/-- ITS FALSE NEIGHBOUR: 'it returns false'. Refute it at one input. -/
def fnTurnSeenWrong : ChangeSpec := { name := "fnTurnSeen", fn := fun _ => fun
  | [d] => { results := [.lit (.bool false)], args := [d] }
  | _ => none }
def FnTurnSeenWrongFalsely : Prop := fnTurnSeenRow.holds Try.pinned (OpenSpec.ofChange fnTurnSeenWrong)

/-- 'laws.FnExactTurnSeen': WHATEVER THE INPUT: true; the input reads as it did. -/
def fnExactTurnSeenSpec : ChangeSpec := { name := "fnExactTurnSeen", fn := fun _ => fun
  | [d1, d2, d3] => { results := [.lit (.bool true)], args := [d1, d2, d3] }
  | _ => none }
def fnExactTurnSeenRow : OpenClaim := { program := "ytefkbmhkhpekjaa", sum := "89410626f234800f677f03f5ac8b99f8d7406db450ff8e2962929ba7e2c8e69d", func := "loop.example/fathomline/laws.FnExactTurnSeen", spec := "fnExactTurnSeen", unfollowed := true, recurses := true, apart := false }
def FnExactTurnSeenSaid : Prop := fnExactTurnSeenRow.holds Try.pinned (OpenSpec.ofChange fnExactTurnSeenSpec)

/-- ITS FALSE NEIGHBOUR: 'it returns false'. Refute it at one input. -/
def fnExactTurnSeenWrong : ChangeSpec := { name := "fnExactTurnSeen", fn := fun _ => fun
  | [d1, d2, d3] => { results := [.lit (.bool false)], args := [d1, d2, d3] }
  | _ => none }
def FnExactTurnSeenWrongFalsely : Prop := fnExactTurnSeenRow.holds Try.pinned (OpenSpec.ofChange fnExactTurnSeenWrong)

/- THE SECOND FORM. 'bulk': how many values and letters a reading holds, each counted each time it is reached (what is shared counts as often as it is met; a slice's spare places count too). A statement '..UptoSaid' is the law's where the arguments, and the package variables that the reading takes, are together of bulk at most 1048576: NARROWER than '..Said'. Prove '..Said' where nothing that the law and all that it calls make is longer than what came in: it says more and counts as full. Else prove '..UptoSaid'. A law counts once. -/
mutual
def uptoBulk {H : Type} : DataW H → Nat
  | .lit (.string bytes) => bytes.length + 1
  | .lit _ => 1
  | .nil => 1
  | .ptr d => uptoBulk d + 1
  | .slice elems spare => uptoBulkAll elems + uptoBulkAll spare + 1
  | .agg parts => uptoBulkAll parts + 1
  | .iface _ d => uptoBulk d + 1
  | .map entries => uptoBulkEntries entries + 1
  | .held _ => 1
def uptoBulkAll {H : Type} : List (DataW H) → Nat
  | [] => 0
  | d :: r => uptoBulk d + uptoBulkAll r
def uptoBulkEntries {H : Type} : List (Lit × DataW H) → Nat
  | [] => 0
  | x :: r => uptoBulkEntry x + uptoBulkEntries r
def uptoBulkEntry {H : Type} : Lit × DataW H → Nat
  | (.string bytes, d) => bytes.length + uptoBulk d + 1
  | (_, d) => uptoBulk d + 1
 end
def uptoSmall : (H : Type) → List (DataW H) → Bool := fun _ ds => decide (uptoBulkAll ds ≤ 1048576)
def OpenSpec.upto (s : _root_.Go.ChangeSpec) : _root_.Go.OpenSpec := { _root_.Go.OpenSpec.ofChange s with cond := some uptoSmall }

/-- 'laws.FnExactShapeOdd', WHERE WHAT IT READS IS OF BULK AT MOST 1048576: true; the input reads as it did. -/
def fnExactShapeOddUptoRow : OpenClaim := { program := "ytefkbmhkhpekjaa", sum := "89410626f234800f677f03f5ac8b99f8d7406db450ff8e2962929ba7e2c8e69d", func := "loop.example/fathomline/laws.FnExactShapeOdd", spec := "fnExactShapeOdd", unfollowed := true, recurses := true, apart := false, narrowed := true }
def FnExactShapeOddUptoSaid : Prop := fnExactShapeOddUptoRow.holds Try.pinned (OpenSpec.upto fnExactShapeOddSpec)

/-- 'laws.FnShapeOf', WHERE WHAT IT READS IS OF BULK AT MOST 1048576: true; the input reads as it did. -/
def fnShapeOfUptoRow : OpenClaim := { program := "ytefkbmhkhpekjaa", sum := "89410626f234800f677f03f5ac8b99f8d7406db450ff8e2962929ba7e2c8e69d", func := "loop.example/fathomline/laws.FnShapeOf", spec := "fnShapeOf", unfollowed := true, recurses := true, apart := false, narrowed := true }
def FnShapeOfUptoSaid : Prop := fnShapeOfUptoRow.holds Try.pinned (OpenSpec.upto fnShapeOfSpec)

/-- 'laws.FnExactShapeOf', WHERE WHAT IT READS IS OF BULK AT MOST 1048576: true; the input reads as it did. -/
def fnExactShapeOfUptoRow : OpenClaim := { program := "ytefkbmhkhpekjaa", sum := "89410626f234800f677f03f5ac8b99f8d7406db450ff8e2962929ba7e2c8e69d", func := "loop.example/fathomline/laws.FnExactShapeOf", spec := "fnExactShapeOf", unfollowed := true, recurses := true, apart := false, narrowed := true }
def FnExactShapeOfUptoSaid : Prop := fnExactShapeOfUptoRow.holds Try.pinned (OpenSpec.upto fnExactShapeOfSpec)

/-- 'laws.FnShapePlain', WHERE WHAT IT READS IS OF BULK AT MOST 1048576: true; the input reads as it did. -/
def fnShapePlainUptoRow : OpenClaim := { program := "ytefkbmhkhpekjaa", sum := "89410626f234800f677f03f5ac8b99f8d7406db450ff8e2962929ba7e2c8e69d", func := "loop.example/fathomline/laws.FnShapePlain", spec := "fnShapePlain", unfollowed := true, recurses := true, apart := false, narrowed := true }
def FnShapePlainUptoSaid : Prop := fnShapePlainUptoRow.holds Try.pinned (OpenSpec.upto fnShapePlainSpec)

/-- 'laws.FnShapeWallAll', WHERE WHAT IT READS IS OF BULK AT MOST 1048576: true; the input reads as it did. -/
def fnShapeWallAllUptoRow : OpenClaim := { program := "ytefkbmhkhpekjaa", sum := "89410626f234800f677f03f5ac8b99f8d7406db450ff8e2962929ba7e2c8e69d", func := "loop.example/fathomline/laws.FnShapeWallAll", spec := "fnShapeWallAll", unfollowed := true, recurses := true, apart := false, narrowed := true }
def FnShapeWallAllUptoSaid : Prop := fnShapeWallAllUptoRow.holds Try.pinned (OpenSpec.upto fnShapeWallAllSpec)

/-- 'laws.FnTurnBeside', WHERE WHAT IT READS IS OF BULK AT MOST 1048576: true; the input reads as it did. -/
def fnTurnBesideUptoRow : OpenClaim := { program := "ytefkbmhkhpekjaa", sum := "89410626f234800f677f03f5ac8b99f8d7406db450ff8e2962929ba7e2c8e69d", func := "loop.example/fathomline/laws.FnTurnBeside", spec := "fnTurnBeside", apart := false, narrowed := true }
def FnTurnBesideUptoSaid : Prop := fnTurnBesideUptoRow.holds Try.pinned (OpenSpec.upto fnTurnBesideSpec)

/-- 'laws.FnTurnPlain', WHERE WHAT IT READS IS OF BULK AT MOST 1048576: true; the input reads as it did. -/
def fnTurnPlainUptoRow : OpenClaim := { program := "ytefkbmhkhpekjaa", sum := "89410626f234800f677f03f5ac8b99f8d7406db450ff8e2962929ba7e2c8e69d", func := "loop.example/fathomline/laws.FnTurnPlain", spec := "fnTurnPlain", unfollowed := true, recurses := true, apart := false, narrowed := true }
def FnTurnPlainUptoSaid : Prop := fnTurnPlainUptoRow.holds Try.pinned (OpenSpec.upto fnTurnPlainSpec)

/-- 'laws.FnExactTurnPlain', WHERE WHAT IT READS IS OF BULK AT MOST 1048576: true; the input reads as it did. -/
def fnExactTurnPlainUptoRow : OpenClaim := { program := "ytefkbmhkhpekjaa", sum := "89410626f234800f677f03f5ac8b99f8d7406db450ff8e2962929ba7e2c8e69d", func := "loop.example/fathomline/laws.FnExactTurnPlain", spec := "fnExactTurnPlain", unfollowed := true, recurses := true, apart := false, narrowed := true }
def FnExactTurnPlainUptoSaid : Prop := fnExactTurnPlainUptoRow.holds Try.pinned (OpenSpec.upto fnExactTurnPlainSpec)

/-- 'laws.FnExactTurnBeside', WHERE WHAT IT READS IS OF BULK AT MOST 1048576: true; the input reads as it did. -/
def fnExactTurnBesideUptoRow : OpenClaim := { program := "ytefkbmhkhpekjaa", sum := "89410626f234800f677f03f5ac8b99f8d7406db450ff8e2962929ba7e2c8e69d", func := "loop.example/fathomline/laws.FnExactTurnBeside", spec := "fnExactTurnBeside", apart := false, narrowed := true }
def FnExactTurnBesideUptoSaid : Prop := fnExactTurnBesideUptoRow.holds Try.pinned (OpenSpec.upto fnExactTurnBesideSpec)

/-- 'laws.FnTurnOk', WHERE WHAT IT READS IS OF BULK AT MOST 1048576: true; the input reads as it did. -/
def fnTurnOkUptoRow : OpenClaim := { program := "ytefkbmhkhpekjaa", sum := "89410626f234800f677f03f5ac8b99f8d7406db450ff8e2962929ba7e2c8e69d", func := "loop.example/fathomline/laws.FnTurnOk", spec := "fnTurnOk", unfollowed := true, recurses := true, apart := false, narrowed := true }
def FnTurnOkUptoSaid : Prop := fnTurnOkUptoRow.holds Try.pinned (OpenSpec.upto fnTurnOkSpec)

/-- 'laws.FnTurnVals', WHERE WHAT IT READS IS OF BULK AT MOST 1048576: true; the input reads as it did. -/
def fnTurnValsUptoRow : OpenClaim := { program := "ytefkbmhkhpekjaa", sum := "89410626f234800f677f03f5ac8b99f8d7406db450ff8e2962929ba7e2c8e69d", func := "loop.example/fathomline/laws.FnTurnVals", spec := "fnTurnVals", unfollowed := true, recurses := true, apart := false, narrowed := true }
def FnTurnValsUptoSaid : Prop := fnTurnValsUptoRow.holds Try.pinned (OpenSpec.upto fnTurnValsSpec)

/-- 'laws.FnTurnThreads', WHERE WHAT IT READS IS OF BULK AT MOST 1048576: true; the input reads as it did. -/
def fnTurnThreadsUptoRow : OpenClaim := { program := "ytefkbmhkhpekjaa", sum := "89410626f234800f677f03f5ac8b99f8d7406db450ff8e2962929ba7e2c8e69d", func := "loop.example/fathomline/laws.FnTurnThreads", spec := "fnTurnThreads", apart := false, narrowed := true }
def FnTurnThreadsUptoSaid : Prop := fnTurnThreadsUptoRow.holds Try.pinned (OpenSpec.upto fnTurnThreadsSpec)

/-- 'laws.FnExactTurnThreads', WHERE WHAT IT READS IS OF BULK AT MOST 1048576: true; the input reads as it did. -/
def fnExactTurnThreadsUptoRow : OpenClaim := { program := "ytefkbmhkhpekjaa", sum := "89410626f234800f677f03f5ac8b99f8d7406db450ff8e2962929ba7e2c8e69d", func := "loop.example/fathomline/laws.FnExactTurnThreads", spec := "fnExactTurnThreads", apart := false, narrowed := true }
def FnExactTurnThreadsUptoSaid : Prop := fnExactTurnThreadsUptoRow.holds Try.pinned (OpenSpec.upto fnExactTurnThreadsSpec)

/-- 'laws.FnTurnPlaces', WHERE WHAT IT READS IS OF BULK AT MOST 1048576: true; the input reads as it did. -/
def fnTurnPlacesUptoRow : OpenClaim := { program := "ytefkbmhkhpekjaa", sum := "89410626f234800f677f03f5ac8b99f8d7406db450ff8e2962929ba7e2c8e69d", func := "loop.example/fathomline/laws.FnTurnPlaces", spec := "fnTurnPlaces", unfollowed := true, recurses := true, apart := false, narrowed := true }
def FnTurnPlacesUptoSaid : Prop := fnTurnPlacesUptoRow.holds Try.pinned (OpenSpec.upto fnTurnPlacesSpec)

/-- 'laws.FnTurnSame', WHERE WHAT IT READS IS OF BULK AT MOST 1048576: true; the input reads as it did. -/
def fnTurnSameUptoRow : OpenClaim := { program := "ytefkbmhkhpekjaa", sum := "89410626f234800f677f03f5ac8b99f8d7406db450ff8e2962929ba7e2c8e69d", func := "loop.example/fathomline/laws.FnTurnSame", spec := "fnTurnSame", unfollowed := true, recurses := true, apart := false, narrowed := true }
def FnTurnSameUptoSaid : Prop := fnTurnSameUptoRow.holds Try.pinned (OpenSpec.upto fnTurnSameSpec)

/-- 'laws.FnExactTurnVals', WHERE WHAT IT READS IS OF BULK AT MOST 1048576: true; the input reads as it did. -/
def fnExactTurnValsUptoRow : OpenClaim := { program := "ytefkbmhkhpekjaa", sum := "89410626f234800f677f03f5ac8b99f8d7406db450ff8e2962929ba7e2c8e69d", func := "loop.example/fathomline/laws.FnExactTurnVals", spec := "fnExactTurnVals", unfollowed := true, recurses := true, apart := false, narrowed := true }
def FnExactTurnValsUptoSaid : Prop := fnExactTurnValsUptoRow.holds Try.pinned (OpenSpec.upto fnExactTurnValsSpec)

/-- 'laws.FnExactTurnPlaces', WHERE WHAT IT READS IS OF BULK AT MOST 1048576: true; the input reads as it did. -/
def fnExactTurnPlacesUptoRow : OpenClaim := { program := "ytefkbmhkhpekjaa", sum := "89410626f234800f677f03f5ac8b99f8d7406db450ff8e2962929ba7e2c8e69d", func := "loop.example/fathomline/laws.FnExactTurnPlaces", spec := "fnExactTurnPlaces", unfollowed := true, recurses := true, apart := false, narrowed := true }
def FnExactTurnPlacesUptoSaid : Prop := fnExactTurnPlacesUptoRow.holds Try.pinned (OpenSpec.upto fnExactTurnPlacesSpec)

/-- 'laws.FnTurnSeen', WHERE WHAT IT READS IS OF BULK AT MOST 1048576: true; the input reads as it did. -/
def fnTurnSeenUptoRow : OpenClaim := { program := "ytefkbmhkhpekjaa", sum := "89410626f234800f677f03f5ac8b99f8d7406db450ff8e2962929ba7e2c8e69d", func := "loop.example/fathomline/laws.FnTurnSeen", spec := "fnTurnSeen", unfollowed := true, recurses := true, apart := false, narrowed := true }
def FnTurnSeenUptoSaid : Prop := fnTurnSeenUptoRow.holds Try.pinned (OpenSpec.upto fnTurnSeenSpec)

/-- 'laws.FnExactTurnSeen', WHERE WHAT IT READS IS OF BULK AT MOST 1048576: true; the input reads as it did. -/
def fnExactTurnSeenUptoRow : OpenClaim := { program := "ytefkbmhkhpekjaa", sum := "89410626f234800f677f03f5ac8b99f8d7406db450ff8e2962929ba7e2c8e69d", func := "loop.example/fathomline/laws.FnExactTurnSeen", spec := "fnExactTurnSeen", unfollowed := true, recurses := true, apart := false, narrowed := true }
def FnExactTurnSeenUptoSaid : Prop := fnExactTurnSeenUptoRow.holds Try.pinned (OpenSpec.upto fnExactTurnSeenSpec)

end Rows
end Go.Proofs.Ytefkbmhkhpekjaa

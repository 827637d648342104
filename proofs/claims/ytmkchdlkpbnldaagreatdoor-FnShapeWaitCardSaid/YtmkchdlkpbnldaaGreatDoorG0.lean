/- What the laws share, part 0: Facts. -/
import Derived.Test.YtmkchdlkpbnldaaGreatDoorRows
import Derived.WalkKit
import Derived.ProofKit
namespace Go.Proofs.YtmkchdlkpbnldaaGreatDoor.Facts
open Go.ChangeShapes Go.WideShapes Go.ChangeAt Go.RowKit
theorem andI {a b : Bool} (ha : a = true) (hb : b = true) : (a && b) = true := by rw [ha, hb]; rfl
theorem strip_cut (r : List (List Char)) : stripLifts liftWords ("cut".toList :: r) = ([], "cut".toList :: r) := by rfl
theorem enter_of {P : Program} (r : List (List Char)) (h : behindMainWord (wordsSigns P.initOrder.toList) = "cut".toList :: r) (h1 : P.laysLater = false) (h2 : P.bearsReflect = false) (h3 : P.doorFits [] = true) : P.mayEnter = true := by
  unfold Program.mayEnter
  rw [h]
  simp only [strip_cut, h1, h2, h3]
  rfl
theorem final_of {P : Program} (r : List (List Char)) (h : behindMainWord (wordsSigns P.initOrder.toList) = "cut".toList :: r) : P.liftsFinal = false := by
  unfold Program.liftsFinal Program.headLifts
  rw [h]
  simp only [strip_cut]
  rfl
theorem make_of {P : Program} (r : List (List Char)) (h : behindMainWord (wordsSigns P.initOrder.toList) = "cut".toList :: r) : P.make = some .cut := by
  unfold Program.make
  rw [h]
  rfl
def signs : List Char := [Char.ofNat 104, Char.ofNat 97, Char.ofNat 114, Char.ofNat 110, Char.ofNat 101, Char.ofNat 115, Char.ofNat 115, Char.ofNat 32, Char.ofNat 100, Char.ofNat 99, Char.ofNat 99, Char.ofNat 49, Char.ofNat 98, Char.ofNat 48, Char.ofNat 56, Char.ofNat 55, Char.ofNat 100, Char.ofNat 49, Char.ofNat 101, Char.ofNat 54, Char.ofNat 57, Char.ofNat 98, Char.ofNat 98, Char.ofNat 56, Char.ofNat 101, Char.ofNat 101, Char.ofNat 98, Char.ofNat 57, Char.ofNat 52, Char.ofNat 54, Char.ofNat 100, Char.ofNat 99, Char.ofNat 49, Char.ofNat 99, Char.ofNat 98, Char.ofNat 102, Char.ofNat 102, Char.ofNat 101, Char.ofNat 98, Char.ofNat 102, Char.ofNat 50, Char.ofNat 51, Char.ofNat 99, Char.ofNat 49, Char.ofNat 99, Char.ofNat 50, Char.ofNat 56, Char.ofNat 48, Char.ofNat 100, Char.ofNat 49, Char.ofNat 51, Char.ofNat 48, Char.ofNat 50, Char.ofNat 54, Char.ofNat 101, Char.ofNat 98, Char.ofNat 55, Char.ofNat 51, Char.ofNat 56, Char.ofNat 101, Char.ofNat 52, Char.ofNat 101, Char.ofNat 50, Char.ofNat 55, Char.ofNat 52, Char.ofNat 48, Char.ofNat 98, Char.ofNat 51, Char.ofNat 50, Char.ofNat 101, Char.ofNat 49, Char.ofNat 56, Char.ofNat 32, Char.ofNat 99, Char.ofNat 117, Char.ofNat 116, Char.ofNat 32, Char.ofNat 97, Char.ofNat 116, Char.ofNat 32, Char.ofNat 108, Char.ofNat 111, Char.ofNat 111, Char.ofNat 112, Char.ofNat 46, Char.ofNat 101, Char.ofNat 120, Char.ofNat 97, Char.ofNat 109, Char.ofNat 112, Char.ofNat 108, Char.ofNat 101, Char.ofNat 47, Char.ofNat 102, Char.ofNat 97, Char.ofNat 116, Char.ofNat 104, Char.ofNat 111, Char.ofNat 109, Char.ofNat 108, Char.ofNat 105, Char.ofNat 110, Char.ofNat 101, Char.ofNat 47, Char.ofNat 108, Char.ofNat 97, Char.ofNat 119, Char.ofNat 115, Char.ofNat 46, Char.ofNat 70, Char.ofNat 110, Char.ofNat 83, Char.ofNat 104, Char.ofNat 97, Char.ofNat 112, Char.ofNat 101, Char.ofNat 84, Char.ofNat 119, Char.ofNat 105, Char.ofNat 99, Char.ofNat 101, Char.ofNat 32, Char.ofNat 108, Char.ofNat 111, Char.ofNat 111, Char.ofNat 112, Char.ofNat 46, Char.ofNat 101, Char.ofNat 120, Char.ofNat 97, Char.ofNat 109, Char.ofNat 112, Char.ofNat 108, Char.ofNat 101, Char.ofNat 47, Char.ofNat 102, Char.ofNat 97, Char.ofNat 116, Char.ofNat 104, Char.ofNat 111, Char.ofNat 109, Char.ofNat 108, Char.ofNat 105, Char.ofNat 110, Char.ofNat 101, Char.ofNat 47, Char.ofNat 108, Char.ofNat 97, Char.ofNat 119, Char.ofNat 115, Char.ofNat 46, Char.ofNat 70, Char.ofNat 110, Char.ofNat 83, Char.ofNat 104, Char.ofNat 97, Char.ofNat 112, Char.ofNat 101, Char.ofNat 87, Char.ofNat 97, Char.ofNat 105, Char.ofNat 116, Char.ofNat 32, Char.ofNat 108, Char.ofNat 111, Char.ofNat 111, Char.ofNat 112, Char.ofNat 46, Char.ofNat 101, Char.ofNat 120, Char.ofNat 97, Char.ofNat 109, Char.ofNat 112, Char.ofNat 108, Char.ofNat 101, Char.ofNat 47, Char.ofNat 102, Char.ofNat 97, Char.ofNat 116, Char.ofNat 104, Char.ofNat 111, Char.ofNat 109, Char.ofNat 108, Char.ofNat 105, Char.ofNat 110, Char.ofNat 101, Char.ofNat 47, Char.ofNat 108, Char.ofNat 97, Char.ofNat 119, Char.ofNat 115, Char.ofNat 46, Char.ofNat 70, Char.ofNat 110, Char.ofNat 83, Char.ofNat 104, Char.ofNat 97, Char.ofNat 112, Char.ofNat 101, Char.ofNat 76, Char.ofNat 97, Char.ofNat 116, Char.ofNat 101, Char.ofNat 32, Char.ofNat 108, Char.ofNat 111, Char.ofNat 111, Char.ofNat 112, Char.ofNat 46, Char.ofNat 101, Char.ofNat 120, Char.ofNat 97, Char.ofNat 109, Char.ofNat 112, Char.ofNat 108, Char.ofNat 101, Char.ofNat 47, Char.ofNat 102, Char.ofNat 97, Char.ofNat 116, Char.ofNat 104, Char.ofNat 111, Char.ofNat 109, Char.ofNat 108, Char.ofNat 105, Char.ofNat 110, Char.ofNat 101, Char.ofNat 47, Char.ofNat 108, Char.ofNat 97, Char.ofNat 119, Char.ofNat 115, Char.ofNat 46, Char.ofNat 70, Char.ofNat 110, Char.ofNat 83, Char.ofNat 104, Char.ofNat 97, Char.ofNat 112, Char.ofNat 101, Char.ofNat 76, Char.ofNat 111, Char.ofNat 111, Char.ofNat 115, Char.ofNat 101, Char.ofNat 32, Char.ofNat 108, Char.ofNat 111, Char.ofNat 111, Char.ofNat 112, Char.ofNat 46, Char.ofNat 101, Char.ofNat 120, Char.ofNat 97, Char.ofNat 109, Char.ofNat 112, Char.ofNat 108, Char.ofNat 101, Char.ofNat 47, Char.ofNat 102, Char.ofNat 97, Char.ofNat 116, Char.ofNat 104, Char.ofNat 111, Char.ofNat 109, Char.ofNat 108, Char.ofNat 105, Char.ofNat 110, Char.ofNat 101, Char.ofNat 47, Char.ofNat 108, Char.ofNat 97, Char.ofNat 119, Char.ofNat 115, Char.ofNat 46, Char.ofNat 70, Char.ofNat 110, Char.ofNat 83, Char.ofNat 104, Char.ofNat 97, Char.ofNat 112, Char.ofNat 101, Char.ofNat 83, Char.ofNat 116, Char.ofNat 114, Char.ofNat 105, Char.ofNat 99, Char.ofNat 116, Char.ofNat 32, Char.ofNat 108, Char.ofNat 111, Char.ofNat 111, Char.ofNat 112, Char.ofNat 46, Char.ofNat 101, Char.ofNat 120, Char.ofNat 97, Char.ofNat 109, Char.ofNat 112, Char.ofNat 108, Char.ofNat 101, Char.ofNat 47, Char.ofNat 102, Char.ofNat 97, Char.ofNat 116, Char.ofNat 104, Char.ofNat 111, Char.ofNat 109, Char.ofNat 108, Char.ofNat 105, Char.ofNat 110, Char.ofNat 101, Char.ofNat 47, Char.ofNat 108, Char.ofNat 97, Char.ofNat 119, Char.ofNat 115, Char.ofNat 46, Char.ofNat 70, Char.ofNat 110, Char.ofNat 83, Char.ofNat 104, Char.ofNat 97, Char.ofNat 112, Char.ofNat 101, Char.ofNat 87, Char.ofNat 97, Char.ofNat 108, Char.ofNat 108, Char.ofNat 115]
set_option maxRecDepth 100000 in
theorem head : Tryz.checked.prog.initOrder = String.ofList signs := by kernel_rfl
theorem letters : Tryz.checked.prog.initOrder.toList = signs := by rw [head, String.toList_ofList]
theorem words : behindMainWord (wordsSigns Tryz.checked.prog.initOrder.toList) = "cut".toList :: (wordsSigns signs).drop 3 := by rw [letters]; kernel_rfl
theorem laid : laidOutB Tryz.checked.prog = true := by kernel_rfl
theorem mapsr : mapsRowed Tryz.checked.prog = true := by kernel_rfl
theorem stops : (Tryz.checked.prog.stops == []) = true := by kernel_rfl
theorem stopKnobs : (Tryz.checked.prog.stopKnobs == []) = true := by kernel_rfl
theorem heard : Tryz.checked.prog.stopsHeard = true := by kernel_rfl
theorem later : Tryz.checked.prog.laysLater = false := by kernel_rfl
theorem reflect : Tryz.checked.prog.bearsReflect = false := by kernel_rfl
theorem door : Tryz.checked.prog.doorFits [] = true := by kernel_rfl
theorem enter : Tryz.checked.prog.mayEnter = true := enter_of _ words later reflect door
theorem final : (false == Tryz.checked.prog.liftsFinal) = true := by rw [final_of _ words]; rfl
theorem cut : (Tryz.checked.prog.make == some .cut) = true := by rw [make_of _ words]; rfl
theorem plain : (true == Tryz.checked.prog.plainKeys) = true := by kernel_rfl
end Go.Proofs.YtmkchdlkpbnldaaGreatDoor.Facts

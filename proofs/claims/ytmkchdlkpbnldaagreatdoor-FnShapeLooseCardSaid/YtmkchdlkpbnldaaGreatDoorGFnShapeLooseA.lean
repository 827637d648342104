/- The walk and the plain law of FnShapeLoose. -/
import Derived.Test.YtmkchdlkpbnldaaGreatDoorG34
import Derived.Test.YtmkchdlkpbnldaaGreatDoorG16
import Derived.Test.YtmkchdlkpbnldaaGreatDoorG17
import Derived.Test.YtmkchdlkpbnldaaGreatDoorG10
import Derived.KernelRfl
namespace Go.Proofs.YtmkchdlkpbnldaaGreatDoor.PB
open Go.RowKit Go.Proofs.YtmkchdlkpbnldaaGreatDoorW.PrintWords Go.Proofs.YtmkchdlkpbnldaaGreatDoorW.PrintLast Go.Proofs.YtmkchdlkpbnldaaGreatDoorW.PrintMore
open Go.Proofs.YtmkchdlkpbnldaaGreatDoorMine
set_option linter.unusedVariables false
set_option linter.unusedSimpArgs false
def looseF (s h : Int) : Bool := if s = 1 then !decide (h = 1) else if s = 2 ∨ s = 5 then decide (h = 0) || decide (h = 3) else if s = 3 then decide (h = 0) else false
set_option maxHeartbeats 8000000 in
set_option maxRecDepth 100000 in
theorem loose_calls (A0 : Option Addr) (c0 : Nat) (l : List Int) (s h : Int) (m : List (List S45)) (ok : Bool) (w : World) (hr : Kd.C (Kd.int .u8) w A0 l.length l) (hc : l.length ≤ c0)
    (hd : spec_DrawShapeOf.f 400 l = some (s, h)) (hS : spec_ShapeOf.f 400 s h = some (m, ok)) (hI : impl_ShapeOf.f s h = some (m, ok)) (hL : laws_lpProg.f 400 m m = some true)
    (r : Bool) (hq : r = (looseF s h)) (hn : ok = true → (1 ≤ s ∧ s ≤ 6) ∧ (0 ≤ h ∧ h ≤ 3)) (hodd : ok = true → lpOdd_f 400 s h 3 = some r) (hT : Tab w) :
    Calls Tryz.prog 6 #[.slice A0 l.length c0] w fun e w' => e = .returned (.bool true) ∧ Below w.heap.size w w' := by
  have HR := am_ hr; have HD := am_ hd; have HS := am_ hS; have HI := am_ hI; have HL := am_ hL; have HX := am_ hodd; have HQ := am_ hq; have HN := am_ hn; have HT := am_ hT
  clear hr hd hS hI hL hodd hT hq hn
  by_cases hlen : 1048576 < l.length
  · have h1 : (1048576 : Int) < l.length := by omega
    go_enter Tryz.func6, Tryz.ntmps6
    go_wp2_with fail
    go_ret
    exact ⟨rfl, Below.refl _ _⟩
  have h1 : ¬ (1048576 : Int) < l.length := by omega
  go_enter Tryz.func6, Tryz.ntmps6
  go_wp2_with (go_at_call 9; refine park ?_)
  refine ⟨?_⟩
  refine (spec_DrawShapeOf.calls 400 A0 c0 l s h _ HR.out hc HD.out).mono ?_
  rintro e w1 ⟨rfl, hb1⟩
  have HB := am_ hb1
  clear hb1
  dsimp only
  go_wp2_with (go_at_call 10; refine park ?_)
  refine ⟨?_⟩
  refine (spec_ShapeOf.calls 400 s h m ok _ HS.out).mono ?_
  rintro e w2 ⟨v2, rfl, hv2, hb2⟩
  obtain ⟨A2, c2, rfl, hc2, hC2⟩ := Kd.N_reads hv2
  have H2 := am_ hC2
  have HB := am_ (below_step HB.out hb2)
  clear hv2 hC2 hb2
  dsimp only
  go_wp2_with (go_at_call 11; refine park ?_)
  refine ⟨?_⟩
  obtain ⟨W2, hW2, HB2, BK2, SZ2⟩ := box1 w2 (.cells #[.slice A2 m.length c2] 27)
  rw [hW2]
  have HB := am_ (below_step HB.out HB2.out)
  have H2 := am_ (Kd.C_below H2.out HB2.out)
  clear hW2 HB2 SZ2
  refine (impl_ShapeOf.calls s h m ok _ HI.out).mono ?_
  rintro e w3 ⟨v3, rfl, hv3, hb3⟩
  obtain ⟨A3, c3, rfl, hc3, hC3⟩ := Kd.N_reads hv3
  have H3 := am_ hC3
  have HB := am_ (below_step HB.out hb3)
  have H2 := am_ (Kd.C_below H2.out hb3)
  have BK2 := am_ (blk_below BK2.out hb3)
  clear hv3 hC3 hb3
  dsimp only
  obtain ⟨W3, hW3, HB3, BK3, SZ3⟩ := box1 w3 (.cells #[.slice A3 m.length c3] 27)
  have HB := am_ (below_step HB.out HB3.out)
  have H2 := am_ (Kd.C_below H2.out HB3.out)
  have H3 := am_ (Kd.C_below H3.out HB3.out)
  have BK2 := am_ (blk_below BK2.out HB3.out)
  clear HB3 SZ3
  have p0 := cf0 BK2.out
  have p1 := cf0 BK3.out
  cases ok
  · go_wp2_with (go_at_call 12; refine park ?_)
    refine ⟨?_⟩
    clear hW3
    refine (laws_lpProg.calls 400 A3 c3 m A2 c2 m true _ H3.out hc3 H2.out hc2 HL.out).mono ?_
    rintro e w4 ⟨rfl, hb4⟩
    have HB := am_ (below_step HB.out hb4)
    have H2 := am_ (Kd.C_below H2.out hb4)
    have H3 := am_ (Kd.C_below H3.out hb4)
    have BK2 := am_ (blk_below BK2.out hb4)
    have BK3 := am_ (blk_below BK3.out hb4)
    clear p0 p1 hb4
    have p0 := cf0 BK2.out
    have p1 := cf0 BK3.out
    dsimp only
    go_wp2_with (go_at_call 12; refine park ?_)
    refine ⟨?_⟩
    refine (laws_lpProg.calls 400 A3 c3 m A2 c2 m true _ H3.out hc3 H2.out hc2 HL.out).mono ?_
    rintro e w5 ⟨rfl, hb5⟩
    have HB := am_ (below_step HB.out hb5)
    clear p0 p1 hb5
    dsimp only
    go_wp2_with fail
    go_ret
    exact ⟨rfl, HB.out⟩
  · go_wp2_with (go_at_call 12; refine park ?_)
    refine ⟨?_⟩
    clear hW3
    refine (laws_lpProg.calls 400 A3 c3 m A2 c2 m true _ H3.out hc3 H2.out hc2 HL.out).mono ?_
    rintro e w4 ⟨rfl, hb4⟩
    have HB := am_ (below_step HB.out hb4)
    have BK3 := am_ (blk_below BK3.out hb4)
    have H3 := am_ (Kd.C_below H3.out hb4)
    clear p0 p1 hb4 BK2 H2
    dsimp only
    have hin := HN.out
    obtain ⟨⟨a1, a6⟩, b0, b3⟩ : (1 ≤ s ∧ s ≤ 6) ∧ (0 ≤ h ∧ h ≤ 3) := by simpa using hin
    clear hin HN
    have hs : s = 1 ∨ s = 2 ∨ s = 3 ∨ s = 4 ∨ s = 5 ∨ s = 6 := by omega
    have hh : h = 0 ∨ h = 1 ∨ h = 2 ∨ h = 3 := by omega
    clear a1 a6 b0 b3 HL HI HS HD HR
    rcases hs with rfl | rfl | rfl | rfl | rfl | rfl <;> rcases hh with rfl | rfl | rfl | rfl
    · obtain rfl : r = true := HQ.out.trans (by decide)
      have e2 : ((1 : Int) == 2) = false := by decide
      have e5 : ((1 : Int) == 5) = false := by decide
      have e3 : ((1 : Int) == 3) = false := by decide
      have d3 : ((0 : Int) == 3) = false := by decide
      have d1 : ((0 : Int) != 1) = true := by decide
      clear HQ
      go_wp2_with (go_at_call 14; refine park ?_)
      refine ⟨?_⟩
      refine (lpOdd_calls 400 1 0 3 true _ (by simpa using HX.out) (Tab.below HT.out HB.out)).mono ?_
      rintro e w5 ⟨rfl, hb5⟩
      have HB := am_ (below_step HB.out hb5)
      clear hb5 HX HT
      dsimp only
      go_wp2_with fail
      go_ret
      exact ⟨rfl, HB.out⟩
    · obtain rfl : r = false := HQ.out.trans (by decide)
      have e2 : ((1 : Int) == 2) = false := by decide
      have e5 : ((1 : Int) == 5) = false := by decide
      have e3 : ((1 : Int) == 3) = false := by decide
      have d0 : ((1 : Int) == 0) = false := by decide
      have d3 : ((1 : Int) == 3) = false := by decide
      have d1 : ((1 : Int) != 1) = false := by decide
      clear HQ
      go_wp2_with (go_at_call 14; refine park ?_)
      refine ⟨?_⟩
      refine (lpOdd_calls 400 1 1 3 false _ (by simpa using HX.out) (Tab.below HT.out HB.out)).mono ?_
      rintro e w5 ⟨rfl, hb5⟩
      have HB := am_ (below_step HB.out hb5)
      clear hb5 HX HT
      dsimp only
      go_wp2_with fail
      go_ret
      exact ⟨rfl, HB.out⟩
    · obtain rfl : r = true := HQ.out.trans (by decide)
      have e2 : ((1 : Int) == 2) = false := by decide
      have e5 : ((1 : Int) == 5) = false := by decide
      have e3 : ((1 : Int) == 3) = false := by decide
      have d0 : ((2 : Int) == 0) = false := by decide
      have d3 : ((2 : Int) == 3) = false := by decide
      have d1 : ((2 : Int) != 1) = true := by decide
      clear HQ
      go_wp2_with (go_at_call 14; refine park ?_)
      refine ⟨?_⟩
      refine (lpOdd_calls 400 1 2 3 true _ (by simpa using HX.out) (Tab.below HT.out HB.out)).mono ?_
      rintro e w5 ⟨rfl, hb5⟩
      have HB := am_ (below_step HB.out hb5)
      clear hb5 HX HT
      dsimp only
      go_wp2_with fail
      go_ret
      exact ⟨rfl, HB.out⟩
    · obtain rfl : r = true := HQ.out.trans (by decide)
      have e2 : ((1 : Int) == 2) = false := by decide
      have e5 : ((1 : Int) == 5) = false := by decide
      have e3 : ((1 : Int) == 3) = false := by decide
      have d0 : ((3 : Int) == 0) = false := by decide
      have d1 : ((3 : Int) != 1) = true := by decide
      clear HQ
      go_wp2_with (go_at_call 14; refine park ?_)
      refine ⟨?_⟩
      refine (lpOdd_calls 400 1 3 3 true _ (by simpa using HX.out) (Tab.below HT.out HB.out)).mono ?_
      rintro e w5 ⟨rfl, hb5⟩
      have HB := am_ (below_step HB.out hb5)
      clear hb5 HX HT
      dsimp only
      go_wp2_with fail
      go_ret
      exact ⟨rfl, HB.out⟩
    · obtain rfl : r = true := HQ.out.trans (by decide)
      have e1 : ((2 : Int) == 1) = false := by decide
      have e5 : ((2 : Int) == 5) = false := by decide
      have e3 : ((2 : Int) == 3) = false := by decide
      have d3 : ((0 : Int) == 3) = false := by decide
      have d1 : ((0 : Int) != 1) = true := by decide
      clear HQ
      go_wp2_with (go_at_call 14; refine park ?_)
      refine ⟨?_⟩
      refine (lpOdd_calls 400 2 0 3 true _ (by simpa using HX.out) (Tab.below HT.out HB.out)).mono ?_
      rintro e w5 ⟨rfl, hb5⟩
      have HB := am_ (below_step HB.out hb5)
      clear hb5 HX HT
      dsimp only
      go_wp2_with fail
      go_ret
      exact ⟨rfl, HB.out⟩
    · obtain rfl : r = false := HQ.out.trans (by decide)
      have e1 : ((2 : Int) == 1) = false := by decide
      have e5 : ((2 : Int) == 5) = false := by decide
      have e3 : ((2 : Int) == 3) = false := by decide
      have d0 : ((1 : Int) == 0) = false := by decide
      have d3 : ((1 : Int) == 3) = false := by decide
      have d1 : ((1 : Int) != 1) = false := by decide
      clear HQ
      go_wp2_with (go_at_call 14; refine park ?_)
      refine ⟨?_⟩
      refine (lpOdd_calls 400 2 1 3 false _ (by simpa using HX.out) (Tab.below HT.out HB.out)).mono ?_
      rintro e w5 ⟨rfl, hb5⟩
      have HB := am_ (below_step HB.out hb5)
      clear hb5 HX HT
      dsimp only
      go_wp2_with fail
      go_ret
      exact ⟨rfl, HB.out⟩
    · obtain rfl : r = false := HQ.out.trans (by decide)
      have e1 : ((2 : Int) == 1) = false := by decide
      have e5 : ((2 : Int) == 5) = false := by decide
      have e3 : ((2 : Int) == 3) = false := by decide
      have d0 : ((2 : Int) == 0) = false := by decide
      have d3 : ((2 : Int) == 3) = false := by decide
      have d1 : ((2 : Int) != 1) = true := by decide
      clear HQ
      go_wp2_with (go_at_call 14; refine park ?_)
      refine ⟨?_⟩
      refine (lpOdd_calls 400 2 2 3 false _ (by simpa using HX.out) (Tab.below HT.out HB.out)).mono ?_
      rintro e w5 ⟨rfl, hb5⟩
      have HB := am_ (below_step HB.out hb5)
      clear hb5 HX HT
      dsimp only
      go_wp2_with fail
      go_ret
      exact ⟨rfl, HB.out⟩
    · obtain rfl : r = true := HQ.out.trans (by decide)
      have e1 : ((2 : Int) == 1) = false := by decide
      have e5 : ((2 : Int) == 5) = false := by decide
      have e3 : ((2 : Int) == 3) = false := by decide
      have d0 : ((3 : Int) == 0) = false := by decide
      have d1 : ((3 : Int) != 1) = true := by decide
      clear HQ
      go_wp2_with (go_at_call 14; refine park ?_)
      refine ⟨?_⟩
      refine (lpOdd_calls 400 2 3 3 true _ (by simpa using HX.out) (Tab.below HT.out HB.out)).mono ?_
      rintro e w5 ⟨rfl, hb5⟩
      have HB := am_ (below_step HB.out hb5)
      clear hb5 HX HT
      dsimp only
      go_wp2_with fail
      go_ret
      exact ⟨rfl, HB.out⟩
    · obtain rfl : r = true := HQ.out.trans (by decide)
      have e1 : ((3 : Int) == 1) = false := by decide
      have e2 : ((3 : Int) == 2) = false := by decide
      have e5 : ((3 : Int) == 5) = false := by decide
      have d3 : ((0 : Int) == 3) = false := by decide
      have d1 : ((0 : Int) != 1) = true := by decide
      clear HQ
      go_wp2_with (go_at_call 14; refine park ?_)
      refine ⟨?_⟩
      refine (lpOdd_calls 400 3 0 3 true _ (by simpa using HX.out) (Tab.below HT.out HB.out)).mono ?_
      rintro e w5 ⟨rfl, hb5⟩
      have HB := am_ (below_step HB.out hb5)
      clear hb5 HX HT
      dsimp only
      go_wp2_with fail
      go_ret
      exact ⟨rfl, HB.out⟩
    · obtain rfl : r = false := HQ.out.trans (by decide)
      have e1 : ((3 : Int) == 1) = false := by decide
      have e2 : ((3 : Int) == 2) = false := by decide
      have e5 : ((3 : Int) == 5) = false := by decide
      have d0 : ((1 : Int) == 0) = false := by decide
      have d3 : ((1 : Int) == 3) = false := by decide
      have d1 : ((1 : Int) != 1) = false := by decide
      clear HQ
      go_wp2_with (go_at_call 14; refine park ?_)
      refine ⟨?_⟩
      refine (lpOdd_calls 400 3 1 3 false _ (by simpa using HX.out) (Tab.below HT.out HB.out)).mono ?_
      rintro e w5 ⟨rfl, hb5⟩
      have HB := am_ (below_step HB.out hb5)
      clear hb5 HX HT
      dsimp only
      go_wp2_with fail
      go_ret
      exact ⟨rfl, HB.out⟩
    · obtain rfl : r = false := HQ.out.trans (by decide)
      have e1 : ((3 : Int) == 1) = false := by decide
      have e2 : ((3 : Int) == 2) = false := by decide
      have e5 : ((3 : Int) == 5) = false := by decide
      have d0 : ((2 : Int) == 0) = false := by decide
      have d3 : ((2 : Int) == 3) = false := by decide
      have d1 : ((2 : Int) != 1) = true := by decide
      clear HQ
      go_wp2_with (go_at_call 14; refine park ?_)
      refine ⟨?_⟩
      refine (lpOdd_calls 400 3 2 3 false _ (by simpa using HX.out) (Tab.below HT.out HB.out)).mono ?_
      rintro e w5 ⟨rfl, hb5⟩
      have HB := am_ (below_step HB.out hb5)
      clear hb5 HX HT
      dsimp only
      go_wp2_with fail
      go_ret
      exact ⟨rfl, HB.out⟩
    · obtain rfl : r = false := HQ.out.trans (by decide)
      have e1 : ((3 : Int) == 1) = false := by decide
      have e2 : ((3 : Int) == 2) = false := by decide
      have e5 : ((3 : Int) == 5) = false := by decide
      have d0 : ((3 : Int) == 0) = false := by decide
      have d1 : ((3 : Int) != 1) = true := by decide
      clear HQ
      go_wp2_with (go_at_call 14; refine park ?_)
      refine ⟨?_⟩
      refine (lpOdd_calls 400 3 3 3 false _ (by simpa using HX.out) (Tab.below HT.out HB.out)).mono ?_
      rintro e w5 ⟨rfl, hb5⟩
      have HB := am_ (below_step HB.out hb5)
      clear hb5 HX HT
      dsimp only
      go_wp2_with fail
      go_ret
      exact ⟨rfl, HB.out⟩
    · obtain rfl : r = false := HQ.out.trans (by decide)
      have e1 : ((4 : Int) == 1) = false := by decide
      have e2 : ((4 : Int) == 2) = false := by decide
      have e5 : ((4 : Int) == 5) = false := by decide
      have e3 : ((4 : Int) == 3) = false := by decide
      have d3 : ((0 : Int) == 3) = false := by decide
      have d1 : ((0 : Int) != 1) = true := by decide
      clear HQ
      go_wp2_with (go_at_call 14; refine park ?_)
      refine ⟨?_⟩
      refine (lpOdd_calls 400 4 0 3 false _ (by simpa using HX.out) (Tab.below HT.out HB.out)).mono ?_
      rintro e w5 ⟨rfl, hb5⟩
      have HB := am_ (below_step HB.out hb5)
      clear hb5 HX HT
      dsimp only
      go_wp2_with fail
      go_ret
      exact ⟨rfl, HB.out⟩
    · obtain rfl : r = false := HQ.out.trans (by decide)
      have e1 : ((4 : Int) == 1) = false := by decide
      have e2 : ((4 : Int) == 2) = false := by decide
      have e5 : ((4 : Int) == 5) = false := by decide
      have e3 : ((4 : Int) == 3) = false := by decide
      have d0 : ((1 : Int) == 0) = false := by decide
      have d3 : ((1 : Int) == 3) = false := by decide
      have d1 : ((1 : Int) != 1) = false := by decide
      clear HQ
      go_wp2_with (go_at_call 14; refine park ?_)
      refine ⟨?_⟩
      refine (lpOdd_calls 400 4 1 3 false _ (by simpa using HX.out) (Tab.below HT.out HB.out)).mono ?_
      rintro e w5 ⟨rfl, hb5⟩
      have HB := am_ (below_step HB.out hb5)
      clear hb5 HX HT
      dsimp only
      go_wp2_with fail
      go_ret
      exact ⟨rfl, HB.out⟩
    · obtain rfl : r = false := HQ.out.trans (by decide)
      have e1 : ((4 : Int) == 1) = false := by decide
      have e2 : ((4 : Int) == 2) = false := by decide
      have e5 : ((4 : Int) == 5) = false := by decide
      have e3 : ((4 : Int) == 3) = false := by decide
      have d0 : ((2 : Int) == 0) = false := by decide
      have d3 : ((2 : Int) == 3) = false := by decide
      have d1 : ((2 : Int) != 1) = true := by decide
      clear HQ
      go_wp2_with (go_at_call 14; refine park ?_)
      refine ⟨?_⟩
      refine (lpOdd_calls 400 4 2 3 false _ (by simpa using HX.out) (Tab.below HT.out HB.out)).mono ?_
      rintro e w5 ⟨rfl, hb5⟩
      have HB := am_ (below_step HB.out hb5)
      clear hb5 HX HT
      dsimp only
      go_wp2_with fail
      go_ret
      exact ⟨rfl, HB.out⟩
    · obtain rfl : r = false := HQ.out.trans (by decide)
      have e1 : ((4 : Int) == 1) = false := by decide
      have e2 : ((4 : Int) == 2) = false := by decide
      have e5 : ((4 : Int) == 5) = false := by decide
      have e3 : ((4 : Int) == 3) = false := by decide
      have d0 : ((3 : Int) == 0) = false := by decide
      have d1 : ((3 : Int) != 1) = true := by decide
      clear HQ
      go_wp2_with (go_at_call 14; refine park ?_)
      refine ⟨?_⟩
      refine (lpOdd_calls 400 4 3 3 false _ (by simpa using HX.out) (Tab.below HT.out HB.out)).mono ?_
      rintro e w5 ⟨rfl, hb5⟩
      have HB := am_ (below_step HB.out hb5)
      clear hb5 HX HT
      dsimp only
      go_wp2_with fail
      go_ret
      exact ⟨rfl, HB.out⟩
    · obtain rfl : r = true := HQ.out.trans (by decide)
      have e1 : ((5 : Int) == 1) = false := by decide
      have e2 : ((5 : Int) == 2) = false := by decide
      have e3 : ((5 : Int) == 3) = false := by decide
      have d3 : ((0 : Int) == 3) = false := by decide
      have d1 : ((0 : Int) != 1) = true := by decide
      clear HQ
      go_wp2_with (go_at_call 14; refine park ?_)
      refine ⟨?_⟩
      refine (lpOdd_calls 400 5 0 3 true _ (by simpa using HX.out) (Tab.below HT.out HB.out)).mono ?_
      rintro e w5 ⟨rfl, hb5⟩
      have HB := am_ (below_step HB.out hb5)
      clear hb5 HX HT
      dsimp only
      go_wp2_with fail
      go_ret
      exact ⟨rfl, HB.out⟩
    · obtain rfl : r = false := HQ.out.trans (by decide)
      have e1 : ((5 : Int) == 1) = false := by decide
      have e2 : ((5 : Int) == 2) = false := by decide
      have e3 : ((5 : Int) == 3) = false := by decide
      have d0 : ((1 : Int) == 0) = false := by decide
      have d3 : ((1 : Int) == 3) = false := by decide
      have d1 : ((1 : Int) != 1) = false := by decide
      clear HQ
      go_wp2_with (go_at_call 14; refine park ?_)
      refine ⟨?_⟩
      refine (lpOdd_calls 400 5 1 3 false _ (by simpa using HX.out) (Tab.below HT.out HB.out)).mono ?_
      rintro e w5 ⟨rfl, hb5⟩
      have HB := am_ (below_step HB.out hb5)
      clear hb5 HX HT
      dsimp only
      go_wp2_with fail
      go_ret
      exact ⟨rfl, HB.out⟩
    · obtain rfl : r = false := HQ.out.trans (by decide)
      have e1 : ((5 : Int) == 1) = false := by decide
      have e2 : ((5 : Int) == 2) = false := by decide
      have e3 : ((5 : Int) == 3) = false := by decide
      have d0 : ((2 : Int) == 0) = false := by decide
      have d3 : ((2 : Int) == 3) = false := by decide
      have d1 : ((2 : Int) != 1) = true := by decide
      clear HQ
      go_wp2_with (go_at_call 14; refine park ?_)
      refine ⟨?_⟩
      refine (lpOdd_calls 400 5 2 3 false _ (by simpa using HX.out) (Tab.below HT.out HB.out)).mono ?_
      rintro e w5 ⟨rfl, hb5⟩
      have HB := am_ (below_step HB.out hb5)
      clear hb5 HX HT
      dsimp only
      go_wp2_with fail
      go_ret
      exact ⟨rfl, HB.out⟩
    · obtain rfl : r = true := HQ.out.trans (by decide)
      have e1 : ((5 : Int) == 1) = false := by decide
      have e2 : ((5 : Int) == 2) = false := by decide
      have e3 : ((5 : Int) == 3) = false := by decide
      have d0 : ((3 : Int) == 0) = false := by decide
      have d1 : ((3 : Int) != 1) = true := by decide
      clear HQ
      go_wp2_with (go_at_call 14; refine park ?_)
      refine ⟨?_⟩
      refine (lpOdd_calls 400 5 3 3 true _ (by simpa using HX.out) (Tab.below HT.out HB.out)).mono ?_
      rintro e w5 ⟨rfl, hb5⟩
      have HB := am_ (below_step HB.out hb5)
      clear hb5 HX HT
      dsimp only
      go_wp2_with fail
      go_ret
      exact ⟨rfl, HB.out⟩
    · obtain rfl : r = false := HQ.out.trans (by decide)
      have e1 : ((6 : Int) == 1) = false := by decide
      have e2 : ((6 : Int) == 2) = false := by decide
      have e5 : ((6 : Int) == 5) = false := by decide
      have e3 : ((6 : Int) == 3) = false := by decide
      have d3 : ((0 : Int) == 3) = false := by decide
      have d1 : ((0 : Int) != 1) = true := by decide
      clear HQ
      go_wp2_with (go_at_call 14; refine park ?_)
      refine ⟨?_⟩
      refine (lpOdd_calls 400 6 0 3 false _ (by simpa using HX.out) (Tab.below HT.out HB.out)).mono ?_
      rintro e w5 ⟨rfl, hb5⟩
      have HB := am_ (below_step HB.out hb5)
      clear hb5 HX HT
      dsimp only
      go_wp2_with fail
      go_ret
      exact ⟨rfl, HB.out⟩
    · obtain rfl : r = false := HQ.out.trans (by decide)
      have e1 : ((6 : Int) == 1) = false := by decide
      have e2 : ((6 : Int) == 2) = false := by decide
      have e5 : ((6 : Int) == 5) = false := by decide
      have e3 : ((6 : Int) == 3) = false := by decide
      have d0 : ((1 : Int) == 0) = false := by decide
      have d3 : ((1 : Int) == 3) = false := by decide
      have d1 : ((1 : Int) != 1) = false := by decide
      clear HQ
      go_wp2_with (go_at_call 14; refine park ?_)
      refine ⟨?_⟩
      refine (lpOdd_calls 400 6 1 3 false _ (by simpa using HX.out) (Tab.below HT.out HB.out)).mono ?_
      rintro e w5 ⟨rfl, hb5⟩
      have HB := am_ (below_step HB.out hb5)
      clear hb5 HX HT
      dsimp only
      go_wp2_with fail
      go_ret
      exact ⟨rfl, HB.out⟩
    · obtain rfl : r = false := HQ.out.trans (by decide)
      have e1 : ((6 : Int) == 1) = false := by decide
      have e2 : ((6 : Int) == 2) = false := by decide
      have e5 : ((6 : Int) == 5) = false := by decide
      have e3 : ((6 : Int) == 3) = false := by decide
      have d0 : ((2 : Int) == 0) = false := by decide
      have d3 : ((2 : Int) == 3) = false := by decide
      have d1 : ((2 : Int) != 1) = true := by decide
      clear HQ
      go_wp2_with (go_at_call 14; refine park ?_)
      refine ⟨?_⟩
      refine (lpOdd_calls 400 6 2 3 false _ (by simpa using HX.out) (Tab.below HT.out HB.out)).mono ?_
      rintro e w5 ⟨rfl, hb5⟩
      have HB := am_ (below_step HB.out hb5)
      clear hb5 HX HT
      dsimp only
      go_wp2_with fail
      go_ret
      exact ⟨rfl, HB.out⟩
    · obtain rfl : r = false := HQ.out.trans (by decide)
      have e1 : ((6 : Int) == 1) = false := by decide
      have e2 : ((6 : Int) == 2) = false := by decide
      have e5 : ((6 : Int) == 5) = false := by decide
      have e3 : ((6 : Int) == 3) = false := by decide
      have d0 : ((3 : Int) == 0) = false := by decide
      have d1 : ((3 : Int) != 1) = true := by decide
      clear HQ
      go_wp2_with (go_at_call 14; refine park ?_)
      refine ⟨?_⟩
      refine (lpOdd_calls 400 6 3 3 false _ (by simpa using HX.out) (Tab.below HT.out HB.out)).mono ?_
      rintro e w5 ⟨rfl, hb5⟩
      have HB := am_ (below_step HB.out hb5)
      clear hb5 HX HT
      dsimp only
      go_wp2_with fail
      go_ret
      exact ⟨rfl, HB.out⟩
end Go.Proofs.YtmkchdlkpbnldaaGreatDoor.PB
namespace Go.Proofs.YtmkchdlkpbnldaaGreatDoor.Pure
open Go.RowKit Go.Proofs.YtmkchdlkpbnldaaGreatDoor.PB Go.Proofs.YtmkchdlkpbnldaaGreatDoorW.PrintWords Go.Proofs.YtmkchdlkpbnldaaGreatDoorW.PrintLast Go.Proofs.YtmkchdlkpbnldaaGreatDoorW.PrintMore
open Go.Proofs.YtmkchdlkpbnldaaGreatDoorMine
def LooseOk (s h : Int) : Prop := lpOdd_f 400 s h 3 = some (looseF s h)
theorem loose1 (s h : Int) (a : lpOdd_f 400 s h 3 = some (looseF s h)) : LooseOk s h := a
set_option maxRecDepth 100000 in
theorem looseOk : ∀ s h, inR s h → LooseOk s h := cases_in (P := LooseOk)
  ⟨loose1 1 0 (by kernel_rfl), loose1 1 1 (by kernel_rfl), loose1 1 2 (by kernel_rfl), loose1 1 3 (by kernel_rfl)⟩
  ⟨loose1 2 0 (by kernel_rfl), loose1 2 1 (by kernel_rfl), loose1 2 2 (by kernel_rfl), loose1 2 3 (by kernel_rfl)⟩
  ⟨loose1 3 0 (by kernel_rfl), loose1 3 1 (by kernel_rfl), loose1 3 2 (by kernel_rfl), loose1 3 3 (by kernel_rfl)⟩
  ⟨loose1 4 0 (by kernel_rfl), loose1 4 1 (by kernel_rfl), loose1 4 2 (by kernel_rfl), loose1 4 3 (by kernel_rfl)⟩
  ⟨loose1 5 0 (by kernel_rfl), loose1 5 1 (by kernel_rfl), loose1 5 2 (by kernel_rfl), loose1 5 3 (by kernel_rfl)⟩
  ⟨loose1 6 0 (by kernel_rfl), loose1 6 1 (by kernel_rfl), loose1 6 2 (by kernel_rfl), loose1 6 3 (by kernel_rfl)⟩
theorem loose_law (A0 : Option Addr) (c0 : Nat) (l : List Int) (w : World) (hr : Kd.C (Kd.int .u8) w A0 l.length l) (hc : l.length ≤ c0) (hw : ∀ x ∈ l, (Lit.int .u8 x).wf = true) (hT : Tab w) :
    Calls Tryz.prog 6 #[.slice A0 l.length c0] w fun e w' => e = .returned (.bool true) ∧ Below w.heap.size w w' := by
  obtain ⟨s, h, e⟩ := drawShape_some 399 l (u8_of_wf hw)
  by_cases hin : inR s h
  · obtain ⟨a, b, c⟩ := shOk s h hin
    exact loose_calls A0 c0 l s h _ true w hr hc e a b c _ rfl (fun _ => hin) (fun _ => looseOk s h hin) hT
  · exact loose_calls A0 c0 l s h [] false w hr hc e (specShape_none 399 s h hin) (implShape_none s h hin) lp_nil _ rfl (fun h => by cases h) (fun h => by cases h) hT
end Go.Proofs.YtmkchdlkpbnldaaGreatDoor.Pure

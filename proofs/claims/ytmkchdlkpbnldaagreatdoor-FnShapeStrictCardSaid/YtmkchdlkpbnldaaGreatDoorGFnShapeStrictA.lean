/- The walk and the plain law of FnShapeStrict. -/
import Derived.Test.YtmkchdlkpbnldaaGreatDoorG34
import Derived.Test.YtmkchdlkpbnldaaGreatDoorG16
import Derived.Test.YtmkchdlkpbnldaaGreatDoorG17
import Derived.Test.YtmkchdlkpbnldaaGreatDoorG10
import Derived.KernelRfl
namespace Go.Proofs.YtmkchdlkpbnldaaGreatDoor.PB
open Go.RowKit Go.Proofs.YtmkchdlkpbnldaaGreatDoorW.PrintWords Go.Proofs.YtmkchdlkpbnldaaGreatDoorW.PrintLast Go.Proofs.YtmkchdlkpbnldaaGreatDoorW.PrintMore
open Go.Proofs.YtmkchdlkpbnldaaGreatDoorMine
set_option linter.unusedVariables false
set_option linter.unusedSimpArgs false
set_option maxHeartbeats 8000000 in
set_option maxRecDepth 100000 in
theorem strict_calls (A0 : Option Addr) (c0 : Nat) (l : List Int) (s h : Int) (m : List (List S45)) (ok : Bool) (w : World) (hr : Kd.C (Kd.int .u8) w A0 l.length l) (hc : l.length ≤ c0)
    (hd : spec_DrawShapeOf.f 400 l = some (s, h)) (hS : spec_ShapeOf.f 400 s h = some (m, ok)) (hI : impl_ShapeOf.f s h = some (m, ok)) (hL : laws_lpProg.f 400 m m = some true)
    (hodd : ok = true → lpOdd_f 400 s h 1 = some false) (hT : Tab w) :
    Calls Tryz.prog 7 #[.slice A0 l.length c0] w fun e w' => e = .returned (.bool true) ∧ Below w.heap.size w w' := by
  have HR := am_ hr; have HD := am_ hd; have HS := am_ hS; have HI := am_ hI; have HL := am_ hL; have HX := am_ hodd; have HT := am_ hT
  clear hr hd hS hI hL hodd hT
  by_cases hlen : 1048576 < l.length
  · have h1 : (1048576 : Int) < l.length := by omega
    go_enter Tryz.func7, Tryz.ntmps7
    go_wp2_with fail
    go_ret
    exact ⟨rfl, Below.refl _ _⟩
  have h1 : ¬ (1048576 : Int) < l.length := by omega
  go_enter Tryz.func7, Tryz.ntmps7
  go_wp2_with (go_at_call 9; refine park ?_)
  refine ⟨?_⟩
  refine (spec_DrawShapeOf.calls 400 A0 c0 l s h _ HR.out hc HD.out).mono ?_
  rintro e w1 ⟨rfl, hb1⟩
  have HB := am_ hb1
  clear hb1
  dsimp only
  go_wp2_with (go_at_call 10; refine park ?_)
  refine ⟨?_⟩
  refine (spec_ShapeOf.calls 400 s h m ok _ HS.out).mono ?_
  rintro e w2 ⟨v2, rfl, hv2, hb2⟩
  obtain ⟨A2, c2, rfl, hc2, hC2⟩ := Kd.N_reads hv2
  have H2 := am_ hC2
  have HB := am_ (below_step HB.out hb2)
  clear hv2 hC2 hb2
  dsimp only
  go_wp2_with (go_at_call 11; refine park ?_)
  refine ⟨?_⟩
  obtain ⟨W2, hW2, HB2, BK2, SZ2⟩ := box1 w2 (.cells #[.slice A2 m.length c2] 27)
  rw [hW2]
  have HB := am_ (below_step HB.out HB2.out)
  have H2 := am_ (Kd.C_below H2.out HB2.out)
  clear hW2 HB2 SZ2
  refine (impl_ShapeOf.calls s h m ok _ HI.out).mono ?_
  rintro e w3 ⟨v3, rfl, hv3, hb3⟩
  obtain ⟨A3, c3, rfl, hc3, hC3⟩ := Kd.N_reads hv3
  have H3 := am_ hC3
  have HB := am_ (below_step HB.out hb3)
  have H2 := am_ (Kd.C_below H2.out hb3)
  have BK2 := am_ (blk_below BK2.out hb3)
  clear hv3 hC3 hb3
  dsimp only
  obtain ⟨W3, hW3, HB3, BK3, SZ3⟩ := box1 w3 (.cells #[.slice A3 m.length c3] 27)
  have HB := am_ (below_step HB.out HB3.out)
  have H2 := am_ (Kd.C_below H2.out HB3.out)
  have H3 := am_ (Kd.C_below H3.out HB3.out)
  have BK2 := am_ (blk_below BK2.out HB3.out)
  clear HB3 SZ3
  have p0 := cf0 BK2.out
  have p1 := cf0 BK3.out
  cases ok
  · go_wp2_with (go_at_call 12; refine park ?_)
    refine ⟨?_⟩
    clear hW3
    refine (laws_lpProg.calls 400 A3 c3 m A2 c2 m true _ H3.out hc3 H2.out hc2 HL.out).mono ?_
    rintro e w4 ⟨rfl, hb4⟩
    have HB := am_ (below_step HB.out hb4)
    have H2 := am_ (Kd.C_below H2.out hb4)
    have H3 := am_ (Kd.C_below H3.out hb4)
    have BK2 := am_ (blk_below BK2.out hb4)
    have BK3 := am_ (blk_below BK3.out hb4)
    clear p0 p1 hb4
    have p0 := cf0 BK2.out
    have p1 := cf0 BK3.out
    dsimp only
    go_wp2_with (go_at_call 12; refine park ?_)
    refine ⟨?_⟩
    refine (laws_lpProg.calls 400 A3 c3 m A2 c2 m true _ H3.out hc3 H2.out hc2 HL.out).mono ?_
    rintro e w5 ⟨rfl, hb5⟩
    have HB := am_ (below_step HB.out hb5)
    clear p0 p1 hb5
    dsimp only
    go_wp2_with fail
    go_ret
    exact ⟨rfl, HB.out⟩
  · go_wp2_with (go_at_call 12; refine park ?_)
    refine ⟨?_⟩
    clear hW3
    refine (laws_lpProg.calls 400 A3 c3 m A2 c2 m true _ H3.out hc3 H2.out hc2 HL.out).mono ?_
    rintro e w4 ⟨rfl, hb4⟩
    have HB := am_ (below_step HB.out hb4)
    have BK3 := am_ (blk_below BK3.out hb4)
    have H3 := am_ (Kd.C_below H3.out hb4)
    clear p0 p1 hb4 BK2 H2
    dsimp only
    go_wp2_with (go_at_call 14; refine park ?_)
    refine ⟨?_⟩
    refine (lpOdd_calls 400 s h 1 false _ (by simpa using HX.out) (Tab.below HT.out HB.out)).mono ?_
    rintro e w5 ⟨rfl, hb5⟩
    have HB := am_ (below_step HB.out hb5)
    clear hb5
    dsimp only
    go_wp2_with fail
    go_ret
    exact ⟨rfl, HB.out⟩
end Go.Proofs.YtmkchdlkpbnldaaGreatDoor.PB
namespace Go.Proofs.YtmkchdlkpbnldaaGreatDoor.Pure
open Go.RowKit Go.Proofs.YtmkchdlkpbnldaaGreatDoor.PB Go.Proofs.YtmkchdlkpbnldaaGreatDoorW.PrintWords Go.Proofs.YtmkchdlkpbnldaaGreatDoorW.PrintLast Go.Proofs.YtmkchdlkpbnldaaGreatDoorW.PrintMore
open Go.Proofs.YtmkchdlkpbnldaaGreatDoorMine
def StrictOk (s h : Int) : Prop := lpOdd_f 400 s h 1 = some (false)
theorem strict1 (s h : Int) (a : lpOdd_f 400 s h 1 = some (false)) : StrictOk s h := a
set_option maxRecDepth 100000 in
theorem strictOk : ∀ s h, inR s h → StrictOk s h := cases_in (P := StrictOk)
  ⟨strict1 1 0 (by kernel_rfl), strict1 1 1 (by kernel_rfl), strict1 1 2 (by kernel_rfl), strict1 1 3 (by kernel_rfl)⟩
  ⟨strict1 2 0 (by kernel_rfl), strict1 2 1 (by kernel_rfl), strict1 2 2 (by kernel_rfl), strict1 2 3 (by kernel_rfl)⟩
  ⟨strict1 3 0 (by kernel_rfl), strict1 3 1 (by kernel_rfl), strict1 3 2 (by kernel_rfl), strict1 3 3 (by kernel_rfl)⟩
  ⟨strict1 4 0 (by kernel_rfl), strict1 4 1 (by kernel_rfl), strict1 4 2 (by kernel_rfl), strict1 4 3 (by kernel_rfl)⟩
  ⟨strict1 5 0 (by kernel_rfl), strict1 5 1 (by kernel_rfl), strict1 5 2 (by kernel_rfl), strict1 5 3 (by kernel_rfl)⟩
  ⟨strict1 6 0 (by kernel_rfl), strict1 6 1 (by kernel_rfl), strict1 6 2 (by kernel_rfl), strict1 6 3 (by kernel_rfl)⟩
theorem strict_law (A0 : Option Addr) (c0 : Nat) (l : List Int) (w : World) (hr : Kd.C (Kd.int .u8) w A0 l.length l) (hc : l.length ≤ c0) (hw : ∀ x ∈ l, (Lit.int .u8 x).wf = true) (hT : Tab w) :
    Calls Tryz.prog 7 #[.slice A0 l.length c0] w fun e w' => e = .returned (.bool true) ∧ Below w.heap.size w w' := by
  obtain ⟨s, h, e⟩ := drawShape_some 399 l (u8_of_wf hw)
  by_cases hin : inR s h
  · obtain ⟨a, b, c⟩ := shOk s h hin
    exact strict_calls A0 c0 l s h _ true w hr hc e a b c (fun _ => strictOk s h hin) hT
  · exact strict_calls A0 c0 l s h [] false w hr hc e (specShape_none 399 s h hin) (implShape_none s h hin) lp_nil (fun h => by cases h) hT
end Go.Proofs.YtmkchdlkpbnldaaGreatDoor.Pure

/- The walk and the plain law of FnShapeLate. -/
import Derived.Test.YtmkchdlkpbnldaaGreatDoorG34
import Derived.Test.YtmkchdlkpbnldaaGreatDoorG16
import Derived.Test.YtmkchdlkpbnldaaGreatDoorG17
import Derived.Test.YtmkchdlkpbnldaaGreatDoorG10
import Derived.KernelRfl
namespace Go.Proofs.YtmkchdlkpbnldaaGreatDoor.PB
open Go.RowKit Go.Proofs.YtmkchdlkpbnldaaGreatDoorW.PrintWords Go.Proofs.YtmkchdlkpbnldaaGreatDoorW.PrintLast Go.Proofs.YtmkchdlkpbnldaaGreatDoorW.PrintMore
open Go.Proofs.YtmkchdlkpbnldaaGreatDoorMine
set_option linter.unusedVariables false
set_option linter.unusedSimpArgs false
set_option maxHeartbeats 8000000 in
set_option maxRecDepth 100000 in
theorem late_calls (A0 : Option Addr) (c0 : Nat) (l : List Int) (s h : Int) (m : List (List S45)) (ok : Bool) (w : World) (hr : Kd.C (Kd.int .u8) w A0 l.length l) (hc : l.length ≤ c0)
    (hd : spec_DrawShapeOf.f 400 l = some (s, h)) (hS : spec_ShapeOf.f 400 s h = some (m, ok)) (hI : impl_ShapeOf.f s h = some (m, ok)) (hL : laws_lpProg.f 400 m m = some true)
    (r : Bool) (hq : r = (decide (s = 1) && !decide (h = 1))) (hodd : ok = true → lpOdd_f 400 s h 2 = some r) (hT : Tab w) :
    Calls Tryz.prog 5 #[.slice A0 l.length c0] w fun e w' => e = .returned (.bool true) ∧ Below w.heap.size w w' := by
  have HR := am_ hr; have HD := am_ hd; have HS := am_ hS; have HI := am_ hI; have HL := am_ hL; have HX := am_ hodd; have HQ := am_ hq; have HT := am_ hT
  clear hr hd hS hI hL hodd hT hq
  by_cases hlen : 1048576 < l.length
  · have h1 : (1048576 : Int) < l.length := by omega
    go_enter Tryz.func5, Tryz.ntmps5
    go_wp2_with fail
    go_ret
    exact ⟨rfl, Below.refl _ _⟩
  have h1 : ¬ (1048576 : Int) < l.length := by omega
  go_enter Tryz.func5, Tryz.ntmps5
  go_wp2_with (go_at_call 9; refine park ?_)
  refine ⟨?_⟩
  refine (spec_DrawShapeOf.calls 400 A0 c0 l s h _ HR.out hc HD.out).mono ?_
  rintro e w1 ⟨rfl, hb1⟩
  have HB := am_ hb1
  clear hb1
  dsimp only
  go_wp2_with (go_at_call 10; refine park ?_)
  refine ⟨?_⟩
  refine (spec_ShapeOf.calls 400 s h m ok _ HS.out).mono ?_
  rintro e w2 ⟨v2, rfl, hv2, hb2⟩
  obtain ⟨A2, c2, rfl, hc2, hC2⟩ := Kd.N_reads hv2
  have H2 := am_ hC2
  have HB := am_ (below_step HB.out hb2)
  clear hv2 hC2 hb2
  dsimp only
  go_wp2_with (go_at_call 11; refine park ?_)
  refine ⟨?_⟩
  obtain ⟨W2, hW2, HB2, BK2, SZ2⟩ := box1 w2 (.cells #[.slice A2 m.length c2] 27)
  rw [hW2]
  have HB := am_ (below_step HB.out HB2.out)
  have H2 := am_ (Kd.C_below H2.out HB2.out)
  clear hW2 HB2 SZ2
  refine (impl_ShapeOf.calls s h m ok _ HI.out).mono ?_
  rintro e w3 ⟨v3, rfl, hv3, hb3⟩
  obtain ⟨A3, c3, rfl, hc3, hC3⟩ := Kd.N_reads hv3
  have H3 := am_ hC3
  have HB := am_ (below_step HB.out hb3)
  have H2 := am_ (Kd.C_below H2.out hb3)
  have BK2 := am_ (blk_below BK2.out hb3)
  clear hv3 hC3 hb3
  dsimp only
  obtain ⟨W3, hW3, HB3, BK3, SZ3⟩ := box1 w3 (.cells #[.slice A3 m.length c3] 27)
  have HB := am_ (below_step HB.out HB3.out)
  have H2 := am_ (Kd.C_below H2.out HB3.out)
  have H3 := am_ (Kd.C_below H3.out HB3.out)
  have BK2 := am_ (blk_below BK2.out HB3.out)
  clear HB3 SZ3
  have p0 := cf0 BK2.out
  have p1 := cf0 BK3.out
  cases ok
  · go_wp2_with (go_at_call 12; refine park ?_)
    refine ⟨?_⟩
    clear hW3
    refine (laws_lpProg.calls 400 A3 c3 m A2 c2 m true _ H3.out hc3 H2.out hc2 HL.out).mono ?_
    rintro e w4 ⟨rfl, hb4⟩
    have HB := am_ (below_step HB.out hb4)
    have H2 := am_ (Kd.C_below H2.out hb4)
    have H3 := am_ (Kd.C_below H3.out hb4)
    have BK2 := am_ (blk_below BK2.out hb4)
    have BK3 := am_ (blk_below BK3.out hb4)
    clear p0 p1 hb4
    have p0 := cf0 BK2.out
    have p1 := cf0 BK3.out
    dsimp only
    go_wp2_with (go_at_call 12; refine park ?_)
    refine ⟨?_⟩
    refine (laws_lpProg.calls 400 A3 c3 m A2 c2 m true _ H3.out hc3 H2.out hc2 HL.out).mono ?_
    rintro e w5 ⟨rfl, hb5⟩
    have HB := am_ (below_step HB.out hb5)
    clear p0 p1 hb5
    dsimp only
    go_wp2_with fail
    go_ret
    exact ⟨rfl, HB.out⟩
  · go_wp2_with (go_at_call 12; refine park ?_)
    refine ⟨?_⟩
    clear hW3
    refine (laws_lpProg.calls 400 A3 c3 m A2 c2 m true _ H3.out hc3 H2.out hc2 HL.out).mono ?_
    rintro e w4 ⟨rfl, hb4⟩
    have HB := am_ (below_step HB.out hb4)
    have BK3 := am_ (blk_below BK3.out hb4)
    have H3 := am_ (Kd.C_below H3.out hb4)
    clear p0 p1 hb4 BK2 H2
    dsimp only
    go_wp2_with (go_at_call 14; refine park ?_)
    refine ⟨?_⟩
    refine (lpOdd_calls 400 s h 2 r _ (by simpa using HX.out) (Tab.below HT.out HB.out)).mono ?_
    rintro e w5 ⟨rfl, hb5⟩
    have HB := am_ (below_step HB.out hb5)
    have hq := HQ.out
    clear hb5 HQ HX HL HI HS HD HR HT
    dsimp only
    by_cases hs : s = 1
    · subst hs
      by_cases hh : h = 1
      · subst hh
        obtain rfl : r = false := by simpa using hq
        clear hq
        go_wp2_with fail
        go_ret
        exact ⟨rfl, HB.out⟩
      · have hq2 : r = true := by simpa [hh] using hq
        clear hq
        subst hq2
        have hh2 := eq_false hh
        clear hh
        go_wp2_with fail
        go_ret
        exact ⟨by simp [hh2], HB.out⟩
    · have hq2 : r = false := by simpa [hs] using hq
      clear hq
      subst hq2
      have hs2 := eq_false hs
      clear hs
      go_wp2_with fail
      go_ret
      exact ⟨by first | rfl | simp [hs2], HB.out⟩
end Go.Proofs.YtmkchdlkpbnldaaGreatDoor.PB
namespace Go.Proofs.YtmkchdlkpbnldaaGreatDoor.Pure
open Go.RowKit Go.Proofs.YtmkchdlkpbnldaaGreatDoor.PB Go.Proofs.YtmkchdlkpbnldaaGreatDoorW.PrintWords Go.Proofs.YtmkchdlkpbnldaaGreatDoorW.PrintLast Go.Proofs.YtmkchdlkpbnldaaGreatDoorW.PrintMore
open Go.Proofs.YtmkchdlkpbnldaaGreatDoorMine
def LateOk (s h : Int) : Prop := lpOdd_f 400 s h 2 = some (decide (s = 1) && !decide (h = 1))
theorem late1 (s h : Int) (a : lpOdd_f 400 s h 2 = some (decide (s = 1) && !decide (h = 1))) : LateOk s h := a
set_option maxRecDepth 100000 in
theorem lateOk : ∀ s h, inR s h → LateOk s h := cases_in (P := LateOk)
  ⟨late1 1 0 (by kernel_rfl), late1 1 1 (by kernel_rfl), late1 1 2 (by kernel_rfl), late1 1 3 (by kernel_rfl)⟩
  ⟨late1 2 0 (by kernel_rfl), late1 2 1 (by kernel_rfl), late1 2 2 (by kernel_rfl), late1 2 3 (by kernel_rfl)⟩
  ⟨late1 3 0 (by kernel_rfl), late1 3 1 (by kernel_rfl), late1 3 2 (by kernel_rfl), late1 3 3 (by kernel_rfl)⟩
  ⟨late1 4 0 (by kernel_rfl), late1 4 1 (by kernel_rfl), late1 4 2 (by kernel_rfl), late1 4 3 (by kernel_rfl)⟩
  ⟨late1 5 0 (by kernel_rfl), late1 5 1 (by kernel_rfl), late1 5 2 (by kernel_rfl), late1 5 3 (by kernel_rfl)⟩
  ⟨late1 6 0 (by kernel_rfl), late1 6 1 (by kernel_rfl), late1 6 2 (by kernel_rfl), late1 6 3 (by kernel_rfl)⟩
theorem late_law (A0 : Option Addr) (c0 : Nat) (l : List Int) (w : World) (hr : Kd.C (Kd.int .u8) w A0 l.length l) (hc : l.length ≤ c0) (hw : ∀ x ∈ l, (Lit.int .u8 x).wf = true) (hT : Tab w) :
    Calls Tryz.prog 5 #[.slice A0 l.length c0] w fun e w' => e = .returned (.bool true) ∧ Below w.heap.size w w' := by
  obtain ⟨s, h, e⟩ := drawShape_some 399 l (u8_of_wf hw)
  by_cases hin : inR s h
  · obtain ⟨a, b, c⟩ := shOk s h hin
    exact late_calls A0 c0 l s h _ true w hr hc e a b c _ rfl (fun _ => lateOk s h hin) hT
  · exact late_calls A0 c0 l s h [] false w hr hc e (specShape_none 399 s h hin) (implShape_none s h hin) lp_nil _ rfl (fun h => by cases h) hT
end Go.Proofs.YtmkchdlkpbnldaaGreatDoor.Pure

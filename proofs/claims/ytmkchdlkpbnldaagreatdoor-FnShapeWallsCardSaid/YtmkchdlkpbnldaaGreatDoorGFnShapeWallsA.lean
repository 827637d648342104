/- The walk and the plain law of FnShapeWalls. -/
import Derived.Test.YtmkchdlkpbnldaaGreatDoorG34
import Derived.Test.YtmkchdlkpbnldaaGreatDoorG16
import Derived.Test.YtmkchdlkpbnldaaGreatDoorG17
import Derived.Test.YtmkchdlkpbnldaaGreatDoorG10
import Derived.KernelRfl
namespace Go.Proofs.YtmkchdlkpbnldaaGreatDoor.PB
open Go.RowKit Go.Proofs.YtmkchdlkpbnldaaGreatDoorW.PrintWords Go.Proofs.YtmkchdlkpbnldaaGreatDoorW.PrintLast Go.Proofs.YtmkchdlkpbnldaaGreatDoorW.PrintMore
open Go.Proofs.YtmkchdlkpbnldaaGreatDoorMine
set_option linter.unusedVariables false
set_option linter.unusedSimpArgs false
set_option maxHeartbeats 8000000 in
set_option maxRecDepth 100000 in
theorem walls_calls (A0 : Option Addr) (c0 : Nat) (l : List Int) (s h : Int) (m : List (List S45)) (ok : Bool) (w : World) (hr : Kd.C (Kd.int .u8) w A0 l.length l) (hc : l.length ≤ c0)
    (A1 : Option Addr) (n1 c1 : Nat) (hd : spec_DrawShapeOf.f 400 l = some (s, h)) (hS : spec_ShapeOf.f 400 s 1 = some (m, ok)) (hI : impl_ShapeOf.f s 1 = some (m, ok)) (hL : laws_lpProg.f 400 m m = some true)
    (hodd : ok = true → ∀ kd : Int, 1 ≤ kd → kd ≤ 3 → lpOdd_f 400 s 1 kd = some false) (hT : Tab w) :
    Calls Tryz.prog 8 #[.slice A0 l.length c0, .slice A1 n1 c1] w fun e w' => e = .returned (.bool true) ∧ Below w.heap.size w w' := by
  have HR := am_ hr; have HD := am_ hd; have HS := am_ hS; have HI := am_ hI; have HL := am_ hL; have HX := am_ hodd; have HT := am_ hT
  clear hr hd hS hI hL hodd hT
  by_cases hlen : 1048576 < l.length
  · have h1 : (1048576 : Int) < l.length := by omega
    go_enter Tryz.func8, Tryz.ntmps8
    go_wp2_with fail
    go_ret
    exact ⟨rfl, Below.refl _ _⟩
  have h1 : ¬ (1048576 : Int) < l.length := by omega
  by_cases hlen1 : 1048576 < n1
  · have h2 : (1048576 : Int) < n1 := by omega
    go_enter Tryz.func8, Tryz.ntmps8
    go_wp2_with fail
    go_ret
    exact ⟨rfl, Below.refl _ _⟩
  have h2 : ¬ (1048576 : Int) < n1 := by omega
  go_enter Tryz.func8, Tryz.ntmps8
  go_wp2_with (go_at_call 9; refine park ?_)
  refine ⟨?_⟩
  refine (spec_DrawShapeOf.calls 400 A0 c0 l s h _ HR.out hc HD.out).mono ?_
  rintro e w1 ⟨rfl, hb1⟩
  have HB := am_ hb1
  clear hb1
  dsimp only
  go_wp2_with (go_at_call 10; refine park ?_)
  refine ⟨?_⟩
  refine (spec_ShapeOf.calls 400 s 1 m ok _ HS.out).mono ?_
  rintro e w2 ⟨v2, rfl, hv2, hb2⟩
  obtain ⟨A2, c2, rfl, hc2, hC2⟩ := Kd.N_reads hv2
  have H2 := am_ hC2
  have HB := am_ (below_step HB.out hb2)
  clear hv2 hC2 hb2
  dsimp only
  go_wp2_with (go_at_call 11; refine park ?_)
  refine ⟨?_⟩
  obtain ⟨W2, hW2, HB2, BK2, SZ2⟩ := box1 w2 (.cells #[.slice A2 m.length c2] 27)
  rw [hW2]
  have HB := am_ (below_step HB.out HB2.out)
  have H2 := am_ (Kd.C_below H2.out HB2.out)
  clear hW2 HB2 SZ2
  refine (impl_ShapeOf.calls s 1 m ok _ HI.out).mono ?_
  rintro e w3 ⟨v3, rfl, hv3, hb3⟩
  obtain ⟨A3, c3, rfl, hc3, hC3⟩ := Kd.N_reads hv3
  have H3 := am_ hC3
  have HB := am_ (below_step HB.out hb3)
  have H2 := am_ (Kd.C_below H2.out hb3)
  have BK2 := am_ (blk_below BK2.out hb3)
  clear hv3 hC3 hb3
  dsimp only
  obtain ⟨W3, hW3, HB3, BK3, SZ3⟩ := box1 w3 (.cells #[.slice A3 m.length c3] 27)
  have HB := am_ (below_step HB.out HB3.out)
  have H2 := am_ (Kd.C_below H2.out HB3.out)
  have H3 := am_ (Kd.C_below H3.out HB3.out)
  have BK2 := am_ (blk_below BK2.out HB3.out)
  clear HB3 SZ3
  have p0 := cf0 BK2.out
  have p1 := cf0 BK3.out
  cases ok
  · go_wp2_with (go_at_call 12; refine park ?_)
    refine ⟨?_⟩
    clear hW3
    refine (laws_lpProg.calls 400 A3 c3 m A2 c2 m true _ H3.out hc3 H2.out hc2 HL.out).mono ?_
    rintro e w4 ⟨rfl, hb4⟩
    have HB := am_ (below_step HB.out hb4)
    have H2 := am_ (Kd.C_below H2.out hb4)
    have H3 := am_ (Kd.C_below H3.out hb4)
    have BK2 := am_ (blk_below BK2.out hb4)
    have BK3 := am_ (blk_below BK3.out hb4)
    clear p0 p1 hb4
    have p0 := cf0 BK2.out
    have p1 := cf0 BK3.out
    dsimp only
    go_wp2_with (go_at_call 12; refine park ?_)
    refine ⟨?_⟩
    refine (laws_lpProg.calls 400 A3 c3 m A2 c2 m true _ H3.out hc3 H2.out hc2 HL.out).mono ?_
    rintro e w5 ⟨rfl, hb5⟩
    have HB := am_ (below_step HB.out hb5)
    clear p0 p1 hb5
    dsimp only
    go_wp2_with fail
    go_ret
    exact ⟨rfl, HB.out⟩
  · go_wp2_with (go_at_call 12; refine park ?_)
    refine ⟨?_⟩
    clear hW3
    refine (laws_lpProg.calls 400 A3 c3 m A2 c2 m true _ H3.out hc3 H2.out hc2 HL.out).mono ?_
    rintro e w4 ⟨rfl, hb4⟩
    have HB := am_ (below_step HB.out hb4)
    have BK3 := am_ (blk_below BK3.out hb4)
    have H3 := am_ (Kd.C_below H3.out hb4)
    clear p0 p1 hb4 BK2 H2
    dsimp only
    obtain ⟨kd, hkd⟩ : ∃ kd : Int, 1 + (n1 : Int) % 3 = kd := ⟨_, rfl⟩
    have hk : 1 ≤ kd ∧ kd ≤ 3 := by omega
    have HK := am_ hk
    clear hk
    go_wp2_with (go_at_call 14; refine park ?_)
    refine ⟨?_⟩
    refine (lpOdd_calls 400 s 1 kd false _ ((show ∀ kd : Int, 1 ≤ kd → kd ≤ 3 → lpOdd_f 400 s 1 kd = some false by simpa using HX.out) kd HK.out.1 HK.out.2) (Tab.below HT.out HB.out)).mono ?_
    rintro e w5 ⟨rfl, hb5⟩
    have HB := am_ (below_step HB.out hb5)
    clear hb5
    dsimp only
    go_wp2_with fail
    go_ret
    exact ⟨rfl, HB.out⟩
end Go.Proofs.YtmkchdlkpbnldaaGreatDoor.PB
namespace Go.Proofs.YtmkchdlkpbnldaaGreatDoor.Pure
open Go.RowKit Go.Proofs.YtmkchdlkpbnldaaGreatDoor.PB Go.Proofs.YtmkchdlkpbnldaaGreatDoorW.PrintWords Go.Proofs.YtmkchdlkpbnldaaGreatDoorW.PrintLast Go.Proofs.YtmkchdlkpbnldaaGreatDoorW.PrintMore
open Go.Proofs.YtmkchdlkpbnldaaGreatDoorMine
set_option linter.unusedVariables false
def WallsAt (s kd : Int) : Prop := lpOdd_f 400 s 1 kd = some false
theorem w1 (s kd : Int) (a : lpOdd_f 400 s 1 kd = some false) : WallsAt s kd := a
set_option maxRecDepth 100000 in
theorem wallsAll : (WallsAt 1 1 ∧ WallsAt 1 2 ∧ WallsAt 1 3) ∧ (WallsAt 2 1 ∧ WallsAt 2 2 ∧ WallsAt 2 3) ∧ (WallsAt 3 1 ∧ WallsAt 3 2 ∧ WallsAt 3 3) ∧ (WallsAt 4 1 ∧ WallsAt 4 2 ∧ WallsAt 4 3) ∧ (WallsAt 5 1 ∧ WallsAt 5 2 ∧ WallsAt 5 3) ∧ (WallsAt 6 1 ∧ WallsAt 6 2 ∧ WallsAt 6 3) :=
  ⟨⟨w1 1 1 (by kernel_rfl), w1 1 2 (by kernel_rfl), w1 1 3 (by kernel_rfl)⟩, ⟨w1 2 1 (by kernel_rfl), w1 2 2 (by kernel_rfl), w1 2 3 (by kernel_rfl)⟩, ⟨w1 3 1 (by kernel_rfl), w1 3 2 (by kernel_rfl), w1 3 3 (by kernel_rfl)⟩, ⟨w1 4 1 (by kernel_rfl), w1 4 2 (by kernel_rfl), w1 4 3 (by kernel_rfl)⟩, ⟨w1 5 1 (by kernel_rfl), w1 5 2 (by kernel_rfl), w1 5 3 (by kernel_rfl)⟩, ⟨w1 6 1 (by kernel_rfl), w1 6 2 (by kernel_rfl), w1 6 3 (by kernel_rfl)⟩⟩
theorem wallsOk (s : Int) (hs : 1 ≤ s ∧ s ≤ 6) (kd : Int) (h1 : 1 ≤ kd) (h3 : kd ≤ 3) : lpOdd_f 400 s 1 kd = some false := by
  obtain ⟨⟨a1, a2, a3⟩, ⟨b1, b2, b3⟩, ⟨c1, c2, c3⟩, ⟨d1, d2, d3⟩, ⟨e1, e2, e3⟩, ⟨f1, f2, f3⟩⟩ := wallsAll
  have hs' : s = 1 ∨ s = 2 ∨ s = 3 ∨ s = 4 ∨ s = 5 ∨ s = 6 := by omega
  have hk : kd = 1 ∨ kd = 2 ∨ kd = 3 := by omega
  rcases hs' with rfl | rfl | rfl | rfl | rfl | rfl <;> rcases hk with rfl | rfl | rfl
  · exact a1
  · exact a2
  · exact a3
  · exact b1
  · exact b2
  · exact b3
  · exact c1
  · exact c2
  · exact c3
  · exact d1
  · exact d2
  · exact d3
  · exact e1
  · exact e2
  · exact e3
  · exact f1
  · exact f2
  · exact f3
theorem walls_law (A0 : Option Addr) (c0 : Nat) (l : List Int) (A1 : Option Addr) (c1 : Nat) (l1 : List Int) (w : World) (hr : Kd.C (Kd.int .u8) w A0 l.length l) (hc : l.length ≤ c0) (hw : ∀ x ∈ l, (Lit.int .u8 x).wf = true) (hr1 : Kd.C (Kd.int .u8) w A1 l1.length l1) (hc1 : l1.length ≤ c1) (hw1 : ∀ x ∈ l1, (Lit.int .u8 x).wf = true) (hT : Tab w) :
    Calls Tryz.prog 8 #[.slice A0 l.length c0, .slice A1 l1.length c1] w fun e w' => e = .returned (.bool true) ∧ Below w.heap.size w w' := by
  obtain ⟨s, h, e⟩ := drawShape_some 399 l (u8_of_wf hw)
  by_cases hin : inR s 1
  · obtain ⟨a, b, c⟩ := shOk s 1 hin
    exact walls_calls A0 c0 l s h _ true w hr hc A1 l1.length c1 e a b c (fun _ => wallsOk s hin.1) hT
  · exact walls_calls A0 c0 l s h [] false w hr hc A1 l1.length c1 e (specShape_none 399 s 1 hin) (implShape_none s 1 hin) lp_nil (fun h => by cases h) hT
end Go.Proofs.YtmkchdlkpbnldaaGreatDoor.Pure

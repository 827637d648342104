/- The walk and the plain law of FnShapeWait. -/
import Derived.Test.YtmkchdlkpbnldaaGreatDoorG34
import Derived.Test.YtmkchdlkpbnldaaGreatDoorG16
import Derived.Test.YtmkchdlkpbnldaaGreatDoorG17
import Derived.Test.YtmkchdlkpbnldaaGreatDoorG10
import Derived.KernelRfl
namespace Go.Proofs.YtmkchdlkpbnldaaGreatDoor.PB
open Go.RowKit Go.Proofs.YtmkchdlkpbnldaaGreatDoorW.PrintWords Go.Proofs.YtmkchdlkpbnldaaGreatDoorW.PrintLast Go.Proofs.YtmkchdlkpbnldaaGreatDoorW.PrintMore
open Go.Proofs.YtmkchdlkpbnldaaGreatDoorMine
set_option linter.unusedVariables false
set_option linter.unusedSimpArgs false
def waitFine (rs : List S35) : Prop := rs.length = 3 ∧ ∀ i : Nat, i < 3 → 2 ≤ (rd_T35 rs i).f0.length ∧ ((rd (rd_T35 rs i).f0 0 == 1) && (rd (rd_T35 rs i).f0 1 == 0)) = false
set_option maxHeartbeats 8000000 in
set_option maxRecDepth 100000 in
theorem wait_calls (A0 : Option Addr) (c0 : Nat) (l : List Int) (s h : Int) (m : List (List S45)) (ok : Bool) (w : World) (hr : Kd.C (Kd.int .u8) w A0 l.length l) (hc : l.length ≤ c0)
    (A1 : Option Addr) (n1 c1 : Nat) (hd : spec_DrawShapeOf.f 400 l = some (s, h)) (hS : spec_ShapeOf.f 400 6 h = some (m, ok)) (hI : impl_ShapeOf.f 6 h = some (m, ok)) (hL : laws_lpProg.f 400 m m = some true)
    (hodd : ok = true → ∀ kd : Int, 1 ≤ kd → kd ≤ 3 → ∃ rs, orderAll_f 400 m kd = some rs ∧ waitFine rs) (hT : Tab w) :
    Calls Tryz.prog 4 #[.slice A0 l.length c0, .slice A1 n1 c1] w fun e w' => e = .returned (.bool true) ∧ Below w.heap.size w w' := by
  have HR := am_ hr; have HD := am_ hd; have HS := am_ hS; have HI := am_ hI; have HL := am_ hL; have HX := am_ hodd; have HT := am_ hT
  clear hr hd hS hI hL hodd hT
  by_cases hlen : 1048576 < l.length
  · have h1 : (1048576 : Int) < l.length := by omega
    go_enter Tryz.func4, Tryz.ntmps4
    go_wp2_with fail
    go_ret
    exact ⟨rfl, Below.refl _ _⟩
  have h1 : ¬ (1048576 : Int) < l.length := by omega
  by_cases hlen1 : 1048576 < n1
  · have h2 : (1048576 : Int) < n1 := by omega
    go_enter Tryz.func4, Tryz.ntmps4
    go_wp2_with fail
    go_ret
    exact ⟨rfl, Below.refl _ _⟩
  have h2 : ¬ (1048576 : Int) < n1 := by omega
  go_enter Tryz.func4, Tryz.ntmps4
  go_wp2_with (go_at_call 9; refine park ?_)
  refine ⟨?_⟩
  refine (spec_DrawShapeOf.calls 400 A0 c0 l s h _ HR.out hc HD.out).mono ?_
  rintro e w1 ⟨rfl, hb1⟩
  have HB := am_ hb1
  clear hb1
  dsimp only
  go_wp2_with (go_at_call 10; refine park ?_)
  refine ⟨?_⟩
  refine (spec_ShapeOf.calls 400 6 h m ok _ HS.out).mono ?_
  rintro e w2 ⟨v2, rfl, hv2, hb2⟩
  obtain ⟨A2, c2, rfl, hc2, hC2⟩ := Kd.N_reads hv2
  have H2 := am_ hC2
  have HB := am_ (below_step HB.out hb2)
  clear hv2 hC2 hb2
  dsimp only
  go_wp2_with (go_at_call 11; refine park ?_)
  refine ⟨?_⟩
  obtain ⟨W2, hW2, HB2, BK2, SZ2⟩ := box1 w2 (.cells #[.slice A2 m.length c2] 27)
  rw [hW2]
  have HB := am_ (below_step HB.out HB2.out)
  have H2 := am_ (Kd.C_below H2.out HB2.out)
  clear hW2 HB2 SZ2
  refine (impl_ShapeOf.calls 6 h m ok _ HI.out).mono ?_
  rintro e w3 ⟨v3, rfl, hv3, hb3⟩
  obtain ⟨A3, c3, rfl, hc3, hC3⟩ := Kd.N_reads hv3
  have H3 := am_ hC3
  have HV := am_ (Kd.N_V (base' := 0) hv3)
  have HB := am_ (below_step HB.out hb3)
  have H2 := am_ (Kd.C_below H2.out hb3)
  have BK2 := am_ (blk_below BK2.out hb3)
  clear hv3 hC3 hb3
  dsimp only
  obtain ⟨W3, hW3, HB3, BK3, SZ3⟩ := box1 w3 (.cells #[.slice A3 m.length c3] 27)
  have HB := am_ (below_step HB.out HB3.out)
  have H2 := am_ (Kd.C_below H2.out HB3.out)
  have H3 := am_ (Kd.C_below H3.out HB3.out)
  have HV := am_ (Kd.V_below HV.out HB3.out)
  have BK2 := am_ (blk_below BK2.out HB3.out)
  clear HB3 SZ3
  have p0 := cf0 BK2.out
  have p1 := cf0 BK3.out
  cases ok
  · go_wp2_with (go_at_call 12; refine park ?_)
    refine ⟨?_⟩
    clear hW3
    refine (laws_lpProg.calls 400 A3 c3 m A2 c2 m true _ H3.out hc3 H2.out hc2 HL.out).mono ?_
    rintro e w4 ⟨rfl, hb4⟩
    have HB := am_ (below_step HB.out hb4)
    have H2 := am_ (Kd.C_below H2.out hb4)
    have H3 := am_ (Kd.C_below H3.out hb4)
    have BK2 := am_ (blk_below BK2.out hb4)
    have BK3 := am_ (blk_below BK3.out hb4)
    clear p0 p1 hb4
    have p0 := cf0 BK2.out
    have p1 := cf0 BK3.out
    dsimp only
    go_wp2_with (go_at_call 12; refine park ?_)
    refine ⟨?_⟩
    refine (laws_lpProg.calls 400 A3 c3 m A2 c2 m true _ H3.out hc3 H2.out hc2 HL.out).mono ?_
    rintro e w5 ⟨rfl, hb5⟩
    have HB := am_ (below_step HB.out hb5)
    clear p0 p1 hb5
    dsimp only
    go_wp2_with fail
    go_ret
    exact ⟨rfl, HB.out⟩
  · go_wp2_with (go_at_call 12; refine park ?_)
    refine ⟨?_⟩
    clear hW3
    refine (laws_lpProg.calls 400 A3 c3 m A2 c2 m true _ H3.out hc3 H2.out hc2 HL.out).mono ?_
    rintro e w4 ⟨rfl, hb4⟩
    have HB := am_ (below_step HB.out hb4)
    have HV := am_ (Kd.V_below HV.out hb4)
    have BK3 := am_ (blk_below BK3.out hb4)
    have H3 := am_ (Kd.C_below H3.out hb4)
    clear p0 p1 hb4 BK2 H2
    dsimp only
    obtain ⟨kd, hkd⟩ : ∃ kd : Int, 1 + (n1 : Int) % 3 = kd := ⟨_, rfl⟩
    have hk : 1 ≤ kd ∧ kd ≤ 3 := by omega
    have HK := am_ hk
    clear hk
    obtain ⟨rs, hrs, hfine⟩ := (show ∀ kd : Int, 1 ≤ kd → kd ≤ 3 → ∃ rs, orderAll_f 400 m kd = some rs ∧ waitFine rs by simpa using HX.out) kd HK.out.1 HK.out.2
    have RS := am_ hrs; have HF := am_ hfine
    clear hrs hfine HX
    have p1 := cf0 BK3.out
    go_wp2_with (go_at_call 13; refine park ?_)
    refine ⟨?_⟩
    have hV4 : Kd.V (Kd.slice 45 k45) 42 w4 w4.heap.size (fun k => _ ≤ k) (.slice A3 m.length c3) m := HV.out
    refine (orderAll_calls 400 _ A3 c3 m kd rs w4 hV4 RS.out (Tab.below HT.out HB.out)).mono ?_
    rintro e w5 ⟨A5, c5, rfl, hc5, hC5, hb5⟩
    have HB := am_ (below_step HB.out hb5)
    have H5 := am_ hC5
    have h3 : rs.length = 3 := HF.out.1
    clear hb5 hC5 hV4 HT HL HI HS HD HR
    rw [h3] at H5 hc5
    rw [h3]
    dsimp only
    go_wp2_with fail
    go_loopg [12] 3 (fun kq v12 w' => ∃ i : Nat, v12 = .int .i64 i ∧ Aside0 (i + kq = 3) ∧ Aside0 (Below w5.heap.size w5 w'))
    case atStart => exact ⟨0, rfl, ⟨by omega⟩, ⟨Below.refl _ _⟩⟩
    case round =>
      obtain ⟨i, rfl, HLp, HBL⟩ := hrel
      by_cases hlt : i < 3
      · obtain ⟨ad, A6, c6, A7, c7, rfl, x0, x1, l6, g6, l7, g7⟩ := at_T35 H5.out i (by omega) (by omega)
        obtain ⟨hl2, hgt⟩ := HF.out.2 i hlt
        simp only [Int.toNat_natCast] at x0 x1
        obtain ⟨ad6, rfl, y0⟩ := Kd.at_int g6 0 (by omega) (by omega)
        obtain ⟨ad6', he, y1⟩ := Kd.at_int g6 1 (by omega) (by omega)
        obtain rfl : ad6 = ad6' := by injection he
        clear he
        have q0 := (HBL.out.cell (World.block_lt_of_cell? w5 _ x0)).trans x0
        have q1 := (HBL.out.cell (World.block_lt_of_cell? w5 _ y0)).trans y0
        have q2 := (HBL.out.cell (World.block_lt_of_cell? w5 _ y1)).trans y1
        have hl3 : 0 < (rd_T35 rs i).f0.length := by omega
        have hl4 : 1 < (rd_T35 rs i).f0.length := by omega
        have hl5 : (0 : Int) < (rd_T35 rs i).f0.length := by omega
        have hl6 : (1 : Int) < (rd_T35 rs i).f0.length := by omega
        have hk1 : (i : Int) < 3 := by omega
        generalize (rd_T35 rs i).f0.length = len at *
        have e0 : (0 : Int).toNat = 0 := rfl
        have e1 : (1 : Int).toNat = 1 := rfl
        rw [e0] at q1
        rw [e1] at q2
        clear e0 e1 x0 x1 y0 y1 l6 l7 g6 g7 hl2
        generalize rd (rd_T35 rs i).f0 0 = b0 at *
        generalize rd (rd_T35 rs i).f0 1 = b1 at *
        replace q1 : wr.cell? ad6 = some (.int .i64 b0) := q1
        replace q2 : wr.cell? ⟨ad6.block, ad6.off + 1, none⟩ = some (.int .i64 b1) := q2
        cases e0 : (b0 == 1)
        · clear hgt
          go_wp2_with fail
          go_roundg (3 - (i + 1))
          case rel => exact ⟨i + 1, by simp, ⟨by omega⟩, HBL⟩
          case measure => have := HLp.out; omega
        · rw [e0] at hgt
          have e1 : (b1 == 0) = false := by simpa using hgt
          clear hgt
          go_wp2_with fail
          go_roundg (3 - (i + 1))
          case rel => exact ⟨i + 1, by simp, ⟨by omega⟩, HBL⟩
          case measure => have := HLp.out; omega
      · obtain rfl : i = 3 := by have := HLp.out; omega
        go_wp2_with fail
        go_ret
        exact ⟨rfl, below_step HB.out HBL.out⟩
end Go.Proofs.YtmkchdlkpbnldaaGreatDoor.PB
namespace Go.Proofs.YtmkchdlkpbnldaaGreatDoor.Pure
open Go.RowKit Go.Proofs.YtmkchdlkpbnldaaGreatDoor.PB Go.Proofs.YtmkchdlkpbnldaaGreatDoorW.PrintWords Go.Proofs.YtmkchdlkpbnldaaGreatDoorW.PrintLast Go.Proofs.YtmkchdlkpbnldaaGreatDoorW.PrintMore
open Go.Proofs.YtmkchdlkpbnldaaGreatDoorMine
set_option linter.unusedVariables false
def waitL : List S35 := [⟨[0, 0], [1, 1, 0]⟩, ⟨[0, 1], [1, 1, 0]⟩, ⟨[1, 1], [1, 1, 0]⟩]
theorem waitFine_ : waitFine waitL := ⟨rfl, fun i hi => by
  have : i = 0 ∨ i = 1 ∨ i = 2 := by omega
  rcases this with rfl | rfl | rfl <;> decide⟩
def WaitAt (h kd : Int) : Prop := orderAll_f 400 (prg 6 h) kd = some waitL
theorem wait1 (h kd : Int) (a : orderAll_f 400 (prg 6 h) kd = some waitL) : WaitAt h kd := a
set_option maxRecDepth 100000 in
theorem waitAll : (WaitAt 0 1 ∧ WaitAt 0 2 ∧ WaitAt 0 3) ∧ (WaitAt 1 1 ∧ WaitAt 1 2 ∧ WaitAt 1 3) ∧ (WaitAt 2 1 ∧ WaitAt 2 2 ∧ WaitAt 2 3) ∧ (WaitAt 3 1 ∧ WaitAt 3 2 ∧ WaitAt 3 3) :=
  ⟨⟨wait1 0 1 (by kernel_rfl), wait1 0 2 (by kernel_rfl), wait1 0 3 (by kernel_rfl)⟩,
  ⟨wait1 1 1 (by kernel_rfl), wait1 1 2 (by kernel_rfl), wait1 1 3 (by kernel_rfl)⟩,
  ⟨wait1 2 1 (by kernel_rfl), wait1 2 2 (by kernel_rfl), wait1 2 3 (by kernel_rfl)⟩,
  ⟨wait1 3 1 (by kernel_rfl), wait1 3 2 (by kernel_rfl), wait1 3 3 (by kernel_rfl)⟩⟩
theorem waitOk (h : Int) (hs : 0 ≤ h ∧ h ≤ 3) (kd : Int) (h1 : 1 ≤ kd) (h3 : kd ≤ 3) : ∃ rs, orderAll_f 400 (prg 6 h) kd = some rs ∧ waitFine rs := by
  refine ⟨waitL, ?_, waitFine_⟩
  obtain ⟨⟨a1, a2, a3⟩, ⟨b1, b2, b3⟩, ⟨c1, c2, c3⟩, ⟨d1, d2, d3⟩⟩ := waitAll
  have hs' : h = 0 ∨ h = 1 ∨ h = 2 ∨ h = 3 := by omega
  have hk : kd = 1 ∨ kd = 2 ∨ kd = 3 := by omega
  rcases hs' with rfl | rfl | rfl | rfl <;> rcases hk with rfl | rfl | rfl
  · exact a1
  · exact a2
  · exact a3
  · exact b1
  · exact b2
  · exact b3
  · exact c1
  · exact c2
  · exact c3
  · exact d1
  · exact d2
  · exact d3
theorem wait_law (A0 : Option Addr) (c0 : Nat) (l : List Int) (A1 : Option Addr) (c1 : Nat) (l1 : List Int) (w : World) (hr : Kd.C (Kd.int .u8) w A0 l.length l) (hc : l.length ≤ c0) (hw : ∀ x ∈ l, (Lit.int .u8 x).wf = true) (hr1 : Kd.C (Kd.int .u8) w A1 l1.length l1) (hc1 : l1.length ≤ c1) (hw1 : ∀ x ∈ l1, (Lit.int .u8 x).wf = true) (hT : Tab w) :
    Calls Tryz.prog 4 #[.slice A0 l.length c0, .slice A1 l1.length c1] w fun e w' => e = .returned (.bool true) ∧ Below w.heap.size w w' := by
  obtain ⟨s, h, e⟩ := drawShape_some 399 l (u8_of_wf hw)
  by_cases hin : inR 6 h
  · obtain ⟨a, b, c⟩ := shOk 6 h hin
    exact wait_calls A0 c0 l s h _ true w hr hc A1 l1.length c1 e a b c (fun _ => waitOk h hin.2) hT
  · exact wait_calls A0 c0 l s h [] false w hr hc A1 l1.length c1 e (specShape_none 399 6 h hin) (implShape_none 6 h hin) lp_nil (fun h => by cases h) hT
end Go.Proofs.YtmkchdlkpbnldaaGreatDoor.Pure

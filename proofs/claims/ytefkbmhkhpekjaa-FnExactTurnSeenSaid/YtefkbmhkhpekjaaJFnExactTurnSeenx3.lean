-- Joined by wip/mclaim.py out of YtefkbmhkhpekjaaPBx105, YtefkbmhkhpekjaaPBx128, YtefkbmhkhpekjaaPBx104, YtefkbmhkhpekjaaPBx60, YtefkbmhkhpekjaaPBx114, YtefkbmhkhpekjaaPBx66, YtefkbmhkhpekjaaPBx115, YtefkbmhkhpekjaaPBx78, YtefkbmhkhpekjaaPBx131, YtefkbmhkhpekjaaPBx116
import Derived.Test.YtefkbmhkhpekjaaPBx0
import Derived.Test.YtefkbmhkhpekjaaJFnExactTurnSeenyPBx43
import Derived.Test.YtefkbmhkhpekjaaJFnExactTurnSeenx4
namespace Go.Proofs.Ytefkbmhkhpekjaa.PB
open Go.RowKit Go.Proofs.YtefkbmhkhpekjaaW.PrintWords Go.Proofs.YtefkbmhkhpekjaaW.PrintLast Go.Proofs.YtefkbmhkhpekjaaW.PrintMore
attribute [local go_sem] max2_int min2_int max_two min_two max_three min_three max_four min_four   -- for this text's walks alone
open Go.Proofs.YtefkbmhkhpekjaaMine
set_option linter.unusedVariables false
set_option linter.unusedSimpArgs false

theorem z105_1 {p : Prop} (h : p := by first | rfl | (simp; done) | (simp [*]; done)) : p := h
theorem z105_2 {p : Prop} (h : p := by first | (with_reducible assumption) | assumption) : p := h
theorem z105_3 {p : Prop} (h : p := by first | rfl | (simp [errW_none, errW_some] <;> rfl) | (simp [*, errW_none, errW_some] <;> rfl)) : p := h
theorem z105_4 {p : Prop} (h : p := by repeat (first | (with_reducible first | exact HB.out | apply below_alloc | apply pw_below_drewN | apply below_drew1) | exact HB.out)) : p := h
theorem z105_5 {p : Prop} (h : p := by repeat (first | (with_reducible first | exact HB.out | apply below_alloc | apply pw_below_drewN | apply below_drew1 | refine below_set ?_ GE1059.out) | exact HB.out)) : p := h
/-! ### spec_ProgReads: function 105 -/
mutual
def spec_ProgReads.l0 : Nat → Int → Int → List (List (S85)) → Option (Int)
  | 0, _, _, _ => none
  | k + 1, x3, x4, x1060000 => if x4 < (x1060000.length : Int) then (spec_ProgReads.l1 k x3 x4 0 x1060000) else (some x3)
def spec_ProgReads.l1 : Nat → Int → Int → Int → List (List (S85)) → Option (Int)
  | 0, _, _, _, _ => none
  | k + 1, x3, x4, x5, x1060000 => if 0 ≤ x4 then (if x4 < (x1060000.length : Int) then (if x5 < ((rd_L7 x1060000 x4).length : Int) then (if 0 ≤ x5 then ((spec_l1Reads.f ((rd_T85 (rd_L7 x1060000 x4) x5).f0) ((rd_T85 (rd_L7 x1060000 x4) x5).f1) ((rd_T85 (rd_L7 x1060000 x4) x5).f2)).bind fun t1064 => (if t1064 = true then (spec_ProgReads.l1 k (wrap64 (x3 + 1)) x4 (wrap64 (x5 + 1)) x1060000) else (spec_ProgReads.l1 k x3 x4 (wrap64 (x5 + 1)) x1060000))) else (none)) else (spec_ProgReads.l0 k x3 (wrap64 (x4 + 1)) x1060000)) else (none)) else (none)
end
def spec_ProgReads.f (k : Nat) (l0_0 : List (List (S85))) : Option (Int) := (spec_ProgOk.f k l0_0).bind fun t1060 => (if t1060 = true then (spec_ProgReads.l0 k 0 0 l0_0) else (some (-1)))
set_option maxHeartbeats 8000000 in
set_option maxRecDepth 100000 in
theorem spec_ProgReads.calls (k : Nat) (A0_0 : Option Addr) (c0_0 : Nat) (l0_0 : List (List (S85))) (r : Int) (w : World) (hr0_0 : Kd.C (Kd.slice 85 k85) w A0_0 l0_0.length l0_0) (hc0_0 : l0_0.length ≤ c0_0) (h : spec_ProgReads.f k l0_0 = some r) :
  Calls Try.prog 105 #[.agg #[.slice A0_0 l0_0.length c0_0]] w fun e w' => e = .returned (.int .i64 r) ∧ Below w.heap.size w w' := by
 have hu35 := Try.underlying35
 have hu85 := Try.underlying85
 have HR0_0 := am_ hr0_0
 have HC0_0 := am_ hc0_0
 clear hr0_0 hc0_0
 have HB := am_ (Below.refl w.heap.size w)
 have H : ((spec_ProgOk.f k l0_0).bind fun t1060 => (if t1060 = true then (spec_ProgReads.l0 k 0 0 l0_0) else (some (-1)))) = some r := h
 clear h
 replace H := Option.bind_eq_some_iff.mp H
 obtain ⟨t1060, A20, H⟩ := H
 replace H : (if t1060 = true then (spec_ProgReads.l0 k 0 0 l0_0) else (some (-1))) = some r := H
 have A2 := am_ A20
 clear A20
 by_cases c3 : t1060 = true
 ·subst c3
  have H1 : (spec_ProgReads.l0 k 0 0 l0_0) = some r := by rw [if_pos rfl] at H; exact H
  clear H
  have H := H1
  clear H1
  have H' := am_ H
  clear H
  go_enter Try.func105, Try.ntmps105
  go_wp2_with (first | ((with_reducible refine gate_dst (N := 1) rfl ?_); refine box_event ?hg (N := 1) ?hd (cs := #[.slice A0_0 l0_0.length c0_0]) (t := 35) ?hr ?_; (case hd => rfl); (case hg => rfl); (case hr => first | (go_simp; done) | (go_simp; rfl)); intro gb1059 hg w4 hbox hb; have n0_ := am_ (below_step z105_4 hb); have n1_ := am_ (hbox); have n2_ := am_ (by rw [hg]; exact (below_size z105_4) : w.heap.size ≤ gb1059); have n3_ := am_ (by rw [hg]; exact (below_size z105_4) : w.heap.size ≤ gb1059); clear HB; have HB := n0_; have BK1059 := n1_; have GW1059 := n2_; have GE1059 := n3_; clear n0_ n1_ n2_ n3_; clear hb hbox hg; have hcz5_0 : w4.cell? ⟨gb1059, 0, none⟩ = some (.slice A0_0 l0_0.length c0_0) := (blk_cell BK1059.out 0).trans rfl; have hfz5_0 := blk_frozen BK1059.out 0) | ((with_reducible refine gate_callee (f := 43) rfl ?_); refine goesL_ (some 7) rfl rfl Try.func43 (by kernel_rfl) rfl #[.agg #[.slice A0_0 l0_0.length c0_0]] rfl (by (try simp only [List.map_toArray, List.map_cons, List.map_nil]); first | done | rfl | (simp only [List.length_drop, List.length_take]; rfl)) ?_; (with_reducible refine (spec_ProgOk.calls k _ _ l0_0 true _ ?side1 ?side2 A2.out).mono ?_); (case side1 => repeat (first | exact (Kd.C_below HR0_0.out HB.out) | (with_reducible refine Kd.C_alloc ?_ _) | (with_reducible refine Kd.C_drewN ?_ _) | (with_reducible refine Kd.C_drew ?_))); (case side2 => exact HC0_0.out); rintro e w6 ⟨rfl, hb⟩; refine ⟨_, rfl, ?_⟩; have n0_ := am_ (blk_below (bu BK1059.out) hb); have n1_ := am_ (below_step z105_5 hb); clear BK1059 HB; have BK1059 := n0_; have HB := n1_; clear n0_ n1_; (try clear hb); (try clear hb2); (try clear hk); (try clear hi)))
  go_loopg [3, 4] k (fun kq v3 v4 w' => ∃ (x3_1 : Int) (x4_1 : Int), v3 = .int .i64 x3_1 ∧ v4 = .int .i64 x4_1 ∧ Aside0 (spec_ProgReads.l0 kq x3_1 x4_1 l0_0 = some r) ∧ Aside0 (kq ≤ k) ∧ Aside0 (w'.heap[gb1059]? = some (.cells #[(.slice A0_0 l0_0.length c0_0)] 35 (0, 0))) ∧ Aside0 (Below w.heap.size w w'))
  case atStart => exact ⟨(0), (0), z105_1, z105_1, H', ⟨Nat.le_refl _⟩, ⟨bu BK1059.out⟩, ⟨z105_5⟩⟩
  case round =>
   clear H'
   obtain ⟨x3_1, x4_1, rfl, rfl, HA, HK1, BK1059, HB⟩ := hrel
   cases gk with
   | zero => exact absurd HA.out (by simp [spec_ProgReads.l0])
   | succ k1 =>
    have H := HA.out
    clear HA
    simp only [spec_ProgReads.l0] at H
    by_cases c7 : x4_1 < (l0_0.length : Int)
    ·rw [if_pos c7] at H
     have c7b0 : decide (x4_1 < (l0_0.length : Int)) = true := decide_eq_true c7
     clear c7
     have H' := am_ H
     clear H
     have hcz8_0 : wr.cell? ⟨gb1059, 0, none⟩ = some (.slice A0_0 l0_0.length c0_0) := (blk_cell BK1059.out 0).trans rfl
     have hfz8_0 := blk_frozen BK1059.out 0
     go_wp2
     go_loopg [3, 5] k1 (fun kq v3 v5 w' => ∃ (x3_2 : Int) (x5_2 : Int), v3 = .int .i64 x3_2 ∧ v5 = .int .i64 x5_2 ∧ Aside0 (spec_ProgReads.l1 kq x3_2 x4_1 x5_2 l0_0 = some r) ∧ Aside0 (kq ≤ k1) ∧ Aside0 (w'.heap[gb1059]? = some (.cells #[(.slice A0_0 l0_0.length c0_0)] 35 (0, 0))) ∧ Aside0 (Below w.heap.size w w'))
     case atStart => exact ⟨(x3_1), (0), z105_1, z105_1, H', ⟨Nat.le_refl _⟩, ⟨bu BK1059.out⟩, ⟨z105_5⟩⟩
     case round =>
      clear H'
      obtain ⟨x3_2, x5_2, rfl, rfl, HA, HK2, BK1059, HB⟩ := hrel
      cases gk with
      | zero => exact absurd HA.out (by simp [spec_ProgReads.l1])
      | succ k2 =>
       have H := HA.out
       clear HA
       simp only [spec_ProgReads.l1] at H
       by_cases c9 : 0 ≤ x4_1
       ·rw [if_pos c9] at H
        have c9b0 : decide (0 ≤ x4_1) = true := decide_eq_true c9
        clear c9
        by_cases c10 : x4_1 < (l0_0.length : Int)
        ·rw [if_pos c10] at H
         have c10b0 : decide (x4_1 < (l0_0.length : Int)) = true := decide_eq_true c10
         clear c10
         by_cases c11 : x5_2 < ((rd_L7 l0_0 x4_1).length : Int)
         ·rw [if_pos c11] at H
          have c11b0 : decide (x5_2 < ((rd_L7 l0_0 x4_1).length : Int)) = true := decide_eq_true c11
          clear c11
          by_cases c12 : 0 ≤ x5_2
          ·rw [if_pos c12] at H
           have c12b0 : decide (0 ≤ x5_2) = true := decide_eq_true c12
           clear c12
           replace H := Option.bind_eq_some_iff.mp H
           obtain ⟨t1064, A130, H⟩ := H
           replace H : (if t1064 = true then (spec_ProgReads.l1 k2 (wrap64 (x3_2 + 1)) x4_1 (wrap64 (x5_2 + 1)) l0_0) else (spec_ProgReads.l1 k2 x3_2 x4_1 (wrap64 (x5_2 + 1)) l0_0)) = some r := H
           have A13 := am_ A130
           clear A130
           by_cases c14 : t1064 = true
           ·subst c14
            have H1 : (spec_ProgReads.l1 k2 (wrap64 (x3_2 + 1)) x4_1 (wrap64 (x5_2 + 1)) l0_0) = some r := by rw [if_pos rfl] at H; exact H
            clear H
            have H := H1
            clear H1
            have H' := am_ H
            clear H
            have hcz15_0 : wr.cell? ⟨gb1059, 0, none⟩ = some (.slice A0_0 l0_0.length c0_0) := (blk_cell BK1059.out 0).trans rfl
            have hfz15_0 := blk_frozen BK1059.out 0
            have p1061 : 0 ≤ (x4_1 : Int) := of_decide_eq_true z105_2
            have q1061 : x4_1 < (l0_0.length : Int) := of_decide_eq_true z105_2
            obtain ⟨ad1061, A1061_0, c1061_0, e1061, hx1061_0, hl1061_0, hi1061_0⟩ := at_L7 HR0_0.out x4_1 p1061 q1061
            cases e1061
            replace hx1061_0 := (HB.out.cell (World.block_lt_of_cell? w _ hx1061_0)).trans hx1061_0
            have HR1061_0 := am_ hi1061_0
            have HC1061_0 := am_ hl1061_0
            clear hi1061_0 hl1061_0
            replace p1061 := eq_true p1061
            replace q1061 := eq_true q1061
            have p1062 : 0 ≤ (x4_1 : Int) := of_decide_eq_true z105_2
            have q1062 : x4_1 < (l0_0.length : Int) := of_decide_eq_true z105_2
            obtain ⟨ad1062, A1062_0, c1062_0, e1062, hx1062_0, hl1062_0, hi1062_0⟩ := at_L7 HR0_0.out x4_1 p1062 q1062
            obtain rfl : ad1061 = ad1062 := (by injection e1062)
            replace hx1062_0 := (HB.out.cell (World.block_lt_of_cell? w _ hx1062_0)).trans hx1062_0
            have HR1062_0 := am_ hi1062_0
            have HC1062_0 := am_ hl1062_0
            clear hi1062_0 hl1062_0
            replace p1062 := eq_true p1062
            replace q1062 := eq_true q1062
            have ea_ := Option.some.inj (hx1061_0.symm.trans hx1062_0)
            injection ea_ with ea_ en_ ec_
            subst ea_
            subst ec_
            clear en_
            have p1063 : 0 ≤ (x5_2 : Int) := of_decide_eq_true z105_2
            have q1063 : x5_2 < ((rd_L7 l0_0 x4_1).length : Int) := of_decide_eq_true z105_2
            obtain ⟨ad1063, e1063, hx1063_0, hx1063_1, hx1063_2⟩ := at_T85 HR1062_0.out x5_2 p1063 q1063
            cases e1063
            replace hx1063_0 := (HB.out.cell (World.block_lt_of_cell? w _ hx1063_0)).trans hx1063_0
            replace hx1063_1 := (HB.out.cell (World.block_lt_of_cell? w _ hx1063_1)).trans hx1063_1
            replace hx1063_2 := (HB.out.cell (World.block_lt_of_cell? w _ hx1063_2)).trans hx1063_2
            replace p1063 := eq_true p1063
            replace q1063 := eq_true q1063
            go_wp2_with (first | ((with_reducible refine gate_callee (f := 87) rfl ?_); refine goesL_ (some 34) rfl rfl Try.func87 (by kernel_rfl) rfl #[.agg #[.int .i64 ((rd_T85 (rd_L7 l0_0 x4_1) x5_2).f0), .int .i64 ((rd_T85 (rd_L7 l0_0 x4_1) x5_2).f1), .int .i64 ((rd_T85 (rd_L7 l0_0 x4_1) x5_2).f2)]] rfl (by (try simp only [List.map_toArray, List.map_cons, List.map_nil]); first | done | rfl | (simp only [List.length_drop, List.length_take]; rfl)) ?_; (with_reducible refine (spec_l1Reads.calls ((rd_T85 (rd_L7 l0_0 x4_1) x5_2).f0) ((rd_T85 (rd_L7 l0_0 x4_1) x5_2).f1) ((rd_T85 (rd_L7 l0_0 x4_1) x5_2).f2) true _ A13.out).mono ?_); rintro e w16 ⟨rfl, hb⟩; refine ⟨_, rfl, ?_⟩; have n0_ := am_ (blk_below (bu BK1059.out) hb); have n1_ := am_ (below_step z105_5 hb); clear BK1059 HB; have BK1059 := n0_; have HB := n1_; clear n0_ n1_; (try clear hb); (try clear hb2); (try clear hk); (try clear hi)))
            go_roundg k2
            case measure => have := HK1.out; have := HK2.out; omega
            case rel => exact ⟨(wrap64 (x3_2 + 1)), (wrap64 (x5_2 + 1)), z105_1, z105_1, H', ⟨by have := HK1.out; have := HK2.out; omega⟩, ⟨bu BK1059.out⟩, ⟨z105_5⟩⟩
           ·replace c14 := Bool.eq_false_iff.mpr c14
            subst c14
            have H1 : (spec_ProgReads.l1 k2 x3_2 x4_1 (wrap64 (x5_2 + 1)) l0_0) = some r := by rw [if_neg (show ¬ (false = true) by decide)] at H; exact H
            clear H
            have H := H1
            clear H1
            have H' := am_ H
            clear H
            have hcz17_0 : wr.cell? ⟨gb1059, 0, none⟩ = some (.slice A0_0 l0_0.length c0_0) := (blk_cell BK1059.out 0).trans rfl
            have hfz17_0 := blk_frozen BK1059.out 0
            have p1061 : 0 ≤ (x4_1 : Int) := of_decide_eq_true z105_2
            have q1061 : x4_1 < (l0_0.length : Int) := of_decide_eq_true z105_2
            obtain ⟨ad1061, A1061_0, c1061_0, e1061, hx1061_0, hl1061_0, hi1061_0⟩ := at_L7 HR0_0.out x4_1 p1061 q1061
            cases e1061
            replace hx1061_0 := (HB.out.cell (World.block_lt_of_cell? w _ hx1061_0)).trans hx1061_0
            have HR1061_0 := am_ hi1061_0
            have HC1061_0 := am_ hl1061_0
            clear hi1061_0 hl1061_0
            replace p1061 := eq_true p1061
            replace q1061 := eq_true q1061
            have p1062 : 0 ≤ (x4_1 : Int) := of_decide_eq_true z105_2
            have q1062 : x4_1 < (l0_0.length : Int) := of_decide_eq_true z105_2
            obtain ⟨ad1062, A1062_0, c1062_0, e1062, hx1062_0, hl1062_0, hi1062_0⟩ := at_L7 HR0_0.out x4_1 p1062 q1062
            obtain rfl : ad1061 = ad1062 := (by injection e1062)
            replace hx1062_0 := (HB.out.cell (World.block_lt_of_cell? w _ hx1062_0)).trans hx1062_0
            have HR1062_0 := am_ hi1062_0
            have HC1062_0 := am_ hl1062_0
            clear hi1062_0 hl1062_0
            replace p1062 := eq_true p1062
            replace q1062 := eq_true q1062
            have ea_ := Option.some.inj (hx1061_0.symm.trans hx1062_0)
            injection ea_ with ea_ en_ ec_
            subst ea_
            subst ec_
            clear en_
            have p1063 : 0 ≤ (x5_2 : Int) := of_decide_eq_true z105_2
            have q1063 : x5_2 < ((rd_L7 l0_0 x4_1).length : Int) := of_decide_eq_true z105_2
            obtain ⟨ad1063, e1063, hx1063_0, hx1063_1, hx1063_2⟩ := at_T85 HR1062_0.out x5_2 p1063 q1063
            cases e1063
            replace hx1063_0 := (HB.out.cell (World.block_lt_of_cell? w _ hx1063_0)).trans hx1063_0
            replace hx1063_1 := (HB.out.cell (World.block_lt_of_cell? w _ hx1063_1)).trans hx1063_1
            replace hx1063_2 := (HB.out.cell (World.block_lt_of_cell? w _ hx1063_2)).trans hx1063_2
            replace p1063 := eq_true p1063
            replace q1063 := eq_true q1063
            go_wp2_with (first | ((with_reducible refine gate_callee (f := 87) rfl ?_); refine goesL_ (some 34) rfl rfl Try.func87 (by kernel_rfl) rfl #[.agg #[.int .i64 ((rd_T85 (rd_L7 l0_0 x4_1) x5_2).f0), .int .i64 ((rd_T85 (rd_L7 l0_0 x4_1) x5_2).f1), .int .i64 ((rd_T85 (rd_L7 l0_0 x4_1) x5_2).f2)]] rfl (by (try simp only [List.map_toArray, List.map_cons, List.map_nil]); first | done | rfl | (simp only [List.length_drop, List.length_take]; rfl)) ?_; (with_reducible refine (spec_l1Reads.calls ((rd_T85 (rd_L7 l0_0 x4_1) x5_2).f0) ((rd_T85 (rd_L7 l0_0 x4_1) x5_2).f1) ((rd_T85 (rd_L7 l0_0 x4_1) x5_2).f2) false _ A13.out).mono ?_); rintro e w18 ⟨rfl, hb⟩; refine ⟨_, rfl, ?_⟩; have n0_ := am_ (blk_below (bu BK1059.out) hb); have n1_ := am_ (below_step z105_5 hb); clear BK1059 HB; have BK1059 := n0_; have HB := n1_; clear n0_ n1_; (try clear hb); (try clear hb2); (try clear hk); (try clear hi)))
            go_roundg k2
            case measure => have := HK1.out; have := HK2.out; omega
            case rel => exact ⟨(x3_2), (wrap64 (x5_2 + 1)), z105_1, z105_1, H', ⟨by have := HK1.out; have := HK2.out; omega⟩, ⟨bu BK1059.out⟩, ⟨z105_5⟩⟩
          ·rw [if_neg c12] at H
           exact absurd H (by simp)
         ·rw [if_neg c11] at H
          have c11b0 : decide (x5_2 < ((rd_L7 l0_0 x4_1).length : Int)) = false := decide_eq_false c11
          clear c11
          have H' := am_ H
          clear H
          have hcz19_0 : wr.cell? ⟨gb1059, 0, none⟩ = some (.slice A0_0 l0_0.length c0_0) := (blk_cell BK1059.out 0).trans rfl
          have hfz19_0 := blk_frozen BK1059.out 0
          have p1061 : 0 ≤ (x4_1 : Int) := of_decide_eq_true z105_2
          have q1061 : x4_1 < (l0_0.length : Int) := of_decide_eq_true z105_2
          obtain ⟨ad1061, A1061_0, c1061_0, e1061, hx1061_0, hl1061_0, hi1061_0⟩ := at_L7 HR0_0.out x4_1 p1061 q1061
          cases e1061
          replace hx1061_0 := (HB.out.cell (World.block_lt_of_cell? w _ hx1061_0)).trans hx1061_0
          have HR1061_0 := am_ hi1061_0
          have HC1061_0 := am_ hl1061_0
          clear hi1061_0 hl1061_0
          replace p1061 := eq_true p1061
          replace q1061 := eq_true q1061
          go_wp2
          go_roundg k2
          case measure => have := HK1.out; have := HK2.out; omega
          case rel => exact ⟨(x3_2), (wrap64 (x4_1 + 1)), z105_1, z105_1, H', ⟨by have := HK1.out; have := HK2.out; omega⟩, ⟨bu BK1059.out⟩, ⟨z105_5⟩⟩
        ·rw [if_neg c10] at H
         exact absurd H (by simp)
       ·rw [if_neg c9] at H
        exact absurd H (by simp)
    ·rw [if_neg c7] at H
     have c7b0 : decide (x4_1 < (l0_0.length : Int)) = false := decide_eq_false c7
     clear c7
     obtain rfl := Option.some.inj H
     have hcz20_0 : wr.cell? ⟨gb1059, 0, none⟩ = some (.slice A0_0 l0_0.length c0_0) := (blk_cell BK1059.out 0).trans rfl
     have hfz20_0 := blk_frozen BK1059.out 0
     go_wp2
     go_ret
     exact ⟨z105_3, z105_5⟩
 ·replace c3 := Bool.eq_false_iff.mpr c3
  subst c3
  have H1 : (some (-1)) = some r := by rw [if_neg (show ¬ (false = true) by decide)] at H; exact H
  clear H
  have H := H1
  clear H1
  obtain rfl := Option.some.inj H
  go_enter Try.func105, Try.ntmps105
  go_wp2_with (first | ((with_reducible refine gate_dst (N := 1) rfl ?_); refine box_event ?hg (N := 1) ?hd (cs := #[.slice A0_0 l0_0.length c0_0]) (t := 35) ?hr ?_; (case hd => rfl); (case hg => rfl); (case hr => first | (go_simp; done) | (go_simp; rfl)); intro gb1059 hg w21 hbox hb; have n0_ := am_ (below_step z105_4 hb); have n1_ := am_ (hbox); have n2_ := am_ (by rw [hg]; exact (below_size z105_4) : w.heap.size ≤ gb1059); have n3_ := am_ (by rw [hg]; exact (below_size z105_4) : w.heap.size ≤ gb1059); clear HB; have HB := n0_; have BK1059 := n1_; have GW1059 := n2_; have GE1059 := n3_; clear n0_ n1_ n2_ n3_; clear hb hbox hg; have hcz22_0 : w21.cell? ⟨gb1059, 0, none⟩ = some (.slice A0_0 l0_0.length c0_0) := (blk_cell BK1059.out 0).trans rfl; have hfz22_0 := blk_frozen BK1059.out 0) | ((with_reducible refine gate_callee (f := 43) rfl ?_); refine goesL_ (some 7) rfl rfl Try.func43 (by kernel_rfl) rfl #[.agg #[.slice A0_0 l0_0.length c0_0]] rfl (by (try simp only [List.map_toArray, List.map_cons, List.map_nil]); first | done | rfl | (simp only [List.length_drop, List.length_take]; rfl)) ?_; (with_reducible refine (spec_ProgOk.calls k _ _ l0_0 false _ ?side1 ?side2 A2.out).mono ?_); (case side1 => repeat (first | exact (Kd.C_below HR0_0.out HB.out) | (with_reducible refine Kd.C_alloc ?_ _) | (with_reducible refine Kd.C_drewN ?_ _) | (with_reducible refine Kd.C_drew ?_))); (case side2 => exact HC0_0.out); rintro e w23 ⟨rfl, hb⟩; refine ⟨_, rfl, ?_⟩; have n0_ := am_ (blk_below (bu BK1059.out) hb); have n1_ := am_ (below_step z105_5 hb); clear BK1059 HB; have BK1059 := n0_; have HB := n1_; clear n0_ n1_; (try clear hb); (try clear hb2); (try clear hk); (try clear hi)))
  go_ret
  exact ⟨z105_3, z105_5⟩

end Go.Proofs.Ytefkbmhkhpekjaa.PB

namespace Go.Proofs.Ytefkbmhkhpekjaa.PB
open Go.RowKit Go.Proofs.YtefkbmhkhpekjaaW.PrintWords Go.Proofs.YtefkbmhkhpekjaaW.PrintLast Go.Proofs.YtefkbmhkhpekjaaW.PrintMore
attribute [local go_sem] max2_int min2_int max_two min_two max_three min_three max_four min_four   -- for this text's walks alone
open Go.Proofs.YtefkbmhkhpekjaaMine
set_option linter.unusedVariables false
set_option linter.unusedSimpArgs false

theorem z128_1 {p : Prop} (h : p := by first | rfl | (simp; done) | (simp [*]; done)) : p := h
theorem z128_2 {p : Prop} (h : p := by first | (with_reducible assumption) | assumption) : p := h
theorem z128_3 {p : Prop} (h : p := by repeat (first | exact Drawn0.refl _ | apply Drawn0.step)) : p := h
/-! ### spec_l2Vals: function 128 -/
def spec_l2Vals.l0 : Nat → List Int → Int → Option (Bool)
  | 0, _, _ => none
  | k + 1, x0, x3 => if x3 < (x0.length : Int) then (if 0 ≤ x3 then ((spec_l6In.f (rd x0 x3) 0 3).bind fun t1119 => (if t1119 = true then (spec_l2Vals.l0 k x0 (wrap64 (x3 + 1))) else (some false))) else (none)) else (some true)
def spec_l2Vals.f (k : Nat) (l0 : List Int) : Option (Bool) := spec_l2Vals.l0 k l0 0
set_option maxHeartbeats 8000000 in
set_option maxRecDepth 100000 in
theorem spec_l2Vals.calls (k : Nat) (A0 : Option Addr) (c0 : Nat) (l0 : List Int) (r : Bool) (w : World) (hr0 : Kd.C (Kd.int .i64) w A0 l0.length l0) (hc0 : l0.length ≤ c0) (h : spec_l2Vals.f k l0 = some r) :
  Calls Try.prog 128 #[.slice A0 l0.length c0] w fun e w' => e = .returned (.bool r) ∧ Drawn0 w w' := by
 have HR0 := am_ hr0
 have HC0 := am_ hc0
 clear hr0 hc0
 have H : (spec_l2Vals.l0 k l0 0) = some r := h
 clear h
 have H' := am_ H
 clear H
 go_enter Try.func128, Try.ntmps128
 go_wp2
 go_loopg [3] k (fun kq v3 w' => ∃ (x3_1 : Int), v3 = .int .i64 x3_1 ∧ Aside0 (spec_l2Vals.l0 kq l0 x3_1 = some r) ∧ Aside0 (kq ≤ k) ∧ Drawn0 w w')
 case atStart => exact ⟨(0), z128_1, H', ⟨Nat.le_refl _⟩, z128_3⟩
 case round =>
  clear H'
  obtain ⟨x3_1, rfl, HA, HK1, ⟨m1, rfl⟩⟩ := hrel
  cases gk with
  | zero => exact absurd HA.out (by simp [spec_l2Vals.l0])
  | succ k1 =>
   have H := HA.out
   clear HA
   simp only [spec_l2Vals.l0] at H
   by_cases c2 : x3_1 < (l0.length : Int)
   ·rw [if_pos c2] at H
    have c2b0 : decide (x3_1 < (l0.length : Int)) = true := decide_eq_true c2
    clear c2
    by_cases c3 : 0 ≤ x3_1
    ·rw [if_pos c3] at H
     have c3b0 : decide (0 ≤ x3_1) = true := decide_eq_true c3
     clear c3
     replace H := Option.bind_eq_some_iff.mp H
     obtain ⟨t1119, A40, H⟩ := H
     replace H : (if t1119 = true then (spec_l2Vals.l0 k1 l0 (wrap64 (x3_1 + 1))) else (some false)) = some r := H
     have A4 := am_ A40
     clear A40
     by_cases c5 : t1119 = true
     ·subst c5
      have H1 : (spec_l2Vals.l0 k1 l0 (wrap64 (x3_1 + 1))) = some r := by rw [if_pos rfl] at H; exact H
      clear H
      have H := H1
      clear H1
      have H' := am_ H
      clear H
      have p1118 : 0 ≤ (x3_1 : Int) := of_decide_eq_true z128_2
      have q1118 : x3_1 < (l0.length : Int) := of_decide_eq_true z128_2
      obtain ⟨ad1118, e1118, hx1118_0⟩ := Kd.at_int HR0.out x3_1 p1118 q1118
      cases e1118
      replace p1118 := eq_true p1118
      replace q1118 := eq_true q1118
      go_wp2_with (first | ((with_reducible refine gate_callee (f := 72) rfl ?_); refine goesL_ (some 14) rfl rfl Try.func72 (by kernel_rfl) rfl #[.int .i64 (rd l0 x3_1), .int .i64 0, .int .i64 3] rfl (by (try simp only [List.map_toArray, List.map_cons, List.map_nil]); first | done | rfl | (simp only [List.length_drop, List.length_take]; rfl)) ?_; (with_reducible refine (spec_l6In.calls (rd l0 x3_1) 0 3 true _ A4.out).mono ?_); rintro e w' ⟨rfl, ⟨nd, rfl⟩⟩; refine ⟨_, rfl, ?_⟩))
      go_roundg k1
      case measure => have := HK1.out; omega
      case rel => exact ⟨(wrap64 (x3_1 + 1)), z128_1, H', ⟨by have := HK1.out; omega⟩, z128_3⟩
     ·replace c5 := Bool.eq_false_iff.mpr c5
      subst c5
      have H1 : (some false) = some r := by rw [if_neg (show ¬ (false = true) by decide)] at H; exact H
      clear H
      have H := H1
      clear H1
      obtain rfl := Option.some.inj H
      have p1118 : 0 ≤ (x3_1 : Int) := of_decide_eq_true z128_2
      have q1118 : x3_1 < (l0.length : Int) := of_decide_eq_true z128_2
      obtain ⟨ad1118, e1118, hx1118_0⟩ := Kd.at_int HR0.out x3_1 p1118 q1118
      cases e1118
      replace p1118 := eq_true p1118
      replace q1118 := eq_true q1118
      go_wp2_with (first | ((with_reducible refine gate_callee (f := 72) rfl ?_); refine goesL_ (some 14) rfl rfl Try.func72 (by kernel_rfl) rfl #[.int .i64 (rd l0 x3_1), .int .i64 0, .int .i64 3] rfl (by (try simp only [List.map_toArray, List.map_cons, List.map_nil]); first | done | rfl | (simp only [List.length_drop, List.length_take]; rfl)) ?_; (with_reducible refine (spec_l6In.calls (rd l0 x3_1) 0 3 false _ A4.out).mono ?_); rintro e w' ⟨rfl, ⟨nd, rfl⟩⟩; refine ⟨_, rfl, ?_⟩))
      go_ret
      exact ⟨z128_1, z128_3⟩
    ·rw [if_neg c3] at H
     exact absurd H (by simp)
   ·rw [if_neg c2] at H
    have c2b0 : decide (x3_1 < (l0.length : Int)) = false := decide_eq_false c2
    clear c2
    obtain rfl := Option.some.inj H
    go_wp2
    go_ret
    exact ⟨z128_1, z128_3⟩

end Go.Proofs.Ytefkbmhkhpekjaa.PB

namespace Go.Proofs.Ytefkbmhkhpekjaa.PB
open Go.RowKit Go.Proofs.YtefkbmhkhpekjaaW.PrintWords Go.Proofs.YtefkbmhkhpekjaaW.PrintLast Go.Proofs.YtefkbmhkhpekjaaW.PrintMore
attribute [local go_sem] max2_int min2_int max_two min_two max_three min_three max_four min_four   -- for this text's walks alone
open Go.Proofs.YtefkbmhkhpekjaaMine
set_option linter.unusedVariables false
set_option linter.unusedSimpArgs false

/-! ### spec_SeenOk: function 104 -/
def spec_SeenOk.T1 : Bool × List (List Nat × List Nat) := (true, [([], []), ([0], [0]), ([1, 1], [1]), ([2], [2]), ([3, 2], [2, 3]), ([4, 2], [2, 4]), ([2], [2]), ([6, 2, 2], [2, 6]), ([5, 7, 2], [2, 5, 7]), ([2, 8], [2, 8]), ([9, 7], [9]), ([10], [10]), ([11, 10], [10, 11]), ([12, 10], [10, 12]), ([13, 10], [10, 13]), ([10, 14], [10, 14]), ([15, 10], [15]), ([16], [16]), ([17, 16], [16, 17]), ([18, 16, 16], [16, 18]), ([16, 19], [16, 19]), ([20, 19], [20]), ([21], [21]), ([22, 21], [21, 22]), ([23, 21, 21], [21, 23]), ([21, 24], [21, 24]), ([25, 24, 0, 1, 2, 3, 4, 5, 6, 7, 8, 9, 10, 11, 12, 13, 14, 15, 16, 17, 18, 19, 20, 21, 22, 23, 24, 25], [25])])
def spec_SeenOk.B1 : List Nat := [0, 1, 3, 7, 15, 31, 7, 71, 255, 511, 1023, 2047, 4095, 8191, 16383, 32767, 65535, 131071, 262143, 524287, 1048575, 2097151, 4194303, 8388607, 16777215, 33554431, 67108863]
theorem spec_SeenOk.tab1 : rtab .any (opsOf Try.f104 1) = spec_SeenOk.T1 := by kernel_rfl
theorem spec_SeenOk.bits1 : waitsOk spec_SeenOk.T1.2 spec_SeenOk.B1 = true := by kernel_rfl
def spec_SeenOk.f (k : Nat) (l0_0 : List (List S85)) (l1_0 : List Int) (l1_1 : List Int) : Option Bool := (spec_ProgOk.f k l0_0).bind fun a => (if a = true then ((spec_ProgReads.f k l0_0).bind fun c => (if (l1_0.length : Int) = c then (if (l1_1.length : Int) = 3 then ((spec_l2Vals.f k l1_0).bind fun d => (if d = true then ((spec_l2Vals.f k l1_1).bind fun e => (some e)) else (some false))) else (some false)) else (some false))) else (some false))
theorem spec_SeenOk.ways {k : Nat} {p : List (List S85)} {sr sl : List Int} {r : Bool} (h : spec_SeenOk.f k p sr sl = some r) : ∃ (b0 b1 b2 b3 : Bool) (m : Int), spec_ProgOk.f k p = some b0 ∧ (b0 = true → spec_ProgReads.f k p = some m ∧ b1 = ((sr.length : Int) == m)) ∧ (b0 = false → b1 = false) ∧ (b1 = true → b2 = ((sl.length : Int) == 3)) ∧ (b1 = false → b2 = false) ∧ (b2 = true → spec_l2Vals.f k sr = some b3) ∧ (b2 = false → b3 = false) ∧ (b3 = true → spec_l2Vals.f k sl = some r) ∧ (b3 = false → r = false) := by
  unfold spec_SeenOk.f at h
  obtain ⟨a, ea, h⟩ := Option.bind_eq_some_iff.mp h
  cases a with
  | false =>
    rw [if_neg (by simp)] at h
    obtain rfl := Option.some.inj h
    exact ⟨false, false, false, false, 0, ea, by simp, fun _ => rfl, by simp, fun _ => rfl, by simp, fun _ => rfl, by simp, fun _ => rfl⟩
  | true =>
    rw [if_pos rfl] at h
    obtain ⟨c, ec, h⟩ := Option.bind_eq_some_iff.mp h
    by_cases h1 : (sr.length : Int) = c
    rotate_left
    · rw [if_neg h1] at h
      obtain rfl := Option.some.inj h
      exact ⟨true, false, false, false, c, ea, fun _ => ⟨ec, (beq_eq_false_iff_ne.mpr h1).symm⟩, by simp, by simp, fun _ => rfl, by simp, fun _ => rfl, by simp, fun _ => rfl⟩
    rw [if_pos h1] at h
    by_cases h2 : (sl.length : Int) = 3
    rotate_left
    · rw [if_neg h2] at h
      obtain rfl := Option.some.inj h
      exact ⟨true, true, false, false, c, ea, fun _ => ⟨ec, (beq_iff_eq.mpr h1).symm⟩, by simp, fun _ => (beq_eq_false_iff_ne.mpr h2).symm, by simp, by simp, fun _ => rfl, by simp, fun _ => rfl⟩
    rw [if_pos h2] at h
    obtain ⟨d, ed, h⟩ := Option.bind_eq_some_iff.mp h
    cases d with
    | false =>
      rw [if_neg (by simp)] at h
      obtain rfl := Option.some.inj h
      exact ⟨true, true, true, false, c, ea, fun _ => ⟨ec, (beq_iff_eq.mpr h1).symm⟩, by simp, fun _ => (beq_iff_eq.mpr h2).symm, by simp, fun _ => ed, by simp, by simp, fun _ => rfl⟩
    | true =>
      rw [if_pos rfl] at h
      obtain ⟨e, ee, h⟩ := Option.bind_eq_some_iff.mp h
      obtain rfl := Option.some.inj h
      exact ⟨true, true, true, true, c, ea, fun _ => ⟨ec, (beq_iff_eq.mpr h1).symm⟩, by simp, fun _ => (beq_iff_eq.mpr h2).symm, by simp, fun _ => ed, by simp, fun _ => ee, by simp⟩
set_option maxRecDepth 100000 in
set_option maxHeartbeats 8000000 in
theorem spec_SeenOk.calls (k : Nat) (A0_0 : Option Addr) (c0_0 : Nat) (l0_0 : List (List S85)) (A1_0 : Option Addr) (c1_0 : Nat) (l1_0 : List Int) (A1_1 : Option Addr) (c1_1 : Nat) (l1_1 : List Int) (r : Bool) (w : World) (hr0_0 : Kd.C (Kd.slice 85 k85) w A0_0 l0_0.length l0_0) (hc0_0 : l0_0.length ≤ c0_0) (hr1_0 : Kd.C (Kd.int .i64) w A1_0 l1_0.length l1_0) (hc1_0 : l1_0.length ≤ c1_0) (hr1_1 : Kd.C (Kd.int .i64) w A1_1 l1_1.length l1_1) (hc1_1 : l1_1.length ≤ c1_1) (h : spec_SeenOk.f k l0_0 l1_0 l1_1 = some r) :
  Calls Try.prog 104 #[.agg #[.slice A0_0 l0_0.length c0_0], .agg #[.slice A1_0 l1_0.length c1_0, .slice A1_1 l1_1.length c1_1]] w fun e w' => e = .returned (.bool r) ∧ Below w.heap.size w w' := by
 obtain ⟨b0, b1, b2, b3, m, h0, h1, h1', h2, h2', h3, h3', h4, h4'⟩ := spec_SeenOk.ways h
 have C0 := am_ hr0_0
 have L0 := am_ hc0_0
 have C1 := am_ hr1_0
 have L1 := am_ hc1_0
 have C2 := am_ hr1_1
 have L2 := am_ hc1_1
 have G0 := am_ h0
 have G1 := am_ h1
 have G1f := am_ h1'
 have G2 := am_ h2
 have G2f := am_ h2'
 have G3 := am_ h3
 have G3f := am_ h3'
 have G4 := am_ h4
 have G4f := am_ h4'
 clear hr0_0 hc0_0 hr1_0 hc1_0 hr1_1 hc1_1 h0 h1 h1' h2 h2' h3 h3' h4 h4' h
 have hx0 := blk_alloc (heap_alloc_new w (Obj.cells #[Value.slice A0_0 l0_0.length c0_0] 35)) (Obj.cells #[Value.slice A1_0 l1_0.length c1_0, Value.slice A1_1 l1_1.length c1_1] 24)
 have hx1 := heap_alloc_new (w.alloc (Obj.cells #[Value.slice A0_0 l0_0.length c0_0] 35)) (Obj.cells #[Value.slice A1_0 l1_0.length c1_0, Value.slice A1_1 l1_1.length c1_1] 24)
 rw [World.size_alloc] at hx1
 have hB := below_alloc (below_alloc (Below.refl w.heap.size w) (Obj.cells #[Value.slice A0_0 l0_0.length c0_0] 35)) (Obj.cells #[Value.slice A1_0 l1_0.length c1_0, Value.slice A1_1 l1_1.length c1_1] 24)
 have BP := am_ (blk_drew hx0)
 have BS := am_ (blk_drew hx1)
 have HB := am_ (below_drew hB)
 clear hx0 hx1 hB
 go_enter Try.func104, Try.ntmps104
 go_wp2_with fail
 refine start_ (n := 27) (S := fun w' => w'.cell? ⟨w.heap.size, 0, none⟩ = some (.slice A0_0 l0_0.length c0_0) ∧ w'.cell? ⟨w.heap.size + 1, 0, none⟩ = some (.slice A1_0 l1_0.length c1_0) ∧ w'.cell? ⟨w.heap.size + 1, 1, none⟩ = some (.slice A1_1 l1_1.length c1_1)) (ds := []) #[false, false, false, false, false, false, false, false, false, false, false, false, false, false, false, false, false, false, false, false, false, false, false, false, false, false, false] (by kernel_rfl) rfl rfl ⟨(blk_cell BP.out 0).trans rfl, (blk_cell BS.out 0).trans rfl, (blk_cell BS.out 1).trans rfl⟩ (fun hHeld => ?_)
 refine with_tabW spec_SeenOk.tab1 spec_SeenOk.bits1 (fun HT_ HW_ => ?_)
 generalize ((w.alloc (Obj.cells #[Value.slice A0_0 l0_0.length c0_0] 35)).alloc (Obj.cells #[Value.slice A1_0 l1_0.length c1_0, Value.slice A1_1 l1_1.length c1_1] 24)).drew = X0 at *
 refine take_ (i := 0) (N := some 5) (v := ?_) (a' := ?_) #[true, false, false, false, false, false, false, false, false, false, false, false, false, false, false, false, false, false, false, false, false, false, false, false, false, false, false] rfl rfl (take_ofW HT_.out HW_.out (by kernel_rfl)) (fun _ _ _ h => h) (Or.inl ⟨by rfl, ?_⟩) hHeld ?_ ?_
 rotate_left
 ·intro w' s0
  have s1 := s0.1
  go_simp
  with_reducible rfl
 rotate_left
 ·simp only [Act.put, List.setIfInBounds_toArray, List.set_cons_zero, List.set_cons_succ, i64_w, i32_w]
  rfl
 refine one_ (i := 1) (N := some 6) #[true, true, false, false, false, false, false, false, false, false, false, false, false, false, false, false, false, false, false, false, false, false, false, false, false, false, false] rfl rfl (one_of HT_.out (by kernel_rfl)) (by decide) (fun K hK => ?_)
 refine goes_ Try.func43 (by kernel_rfl) rfl #[.agg #[.slice A0_0 l0_0.length c0_0]] (by rfl) rfl rfl (by (try simp only [List.map_toArray, List.map_cons, List.map_nil]); first | done | rfl) ?_
 with_reducible refine (spec_ProgOk.calls k _ _ l0_0 b0 _ (Kd.C_below C0.out HB.out) L0.out G0.out).mono ?_
 rintro e Y0 ⟨rfl, hb⟩
 refine ⟨_, rfl, ?_⟩
 have BPY0 := am_ (blk_below BP.out hb)
 have BSY0 := am_ (blk_below BS.out hb)
 have HBY0 := am_ (below_then HB.out HB.out.size hb)
 clear hb BP BS HB
 refine hK.out _ _ ⟨(blk_cell BPY0.out 0).trans rfl, (blk_cell BSY0.out 0).trans rfl, (blk_cell BSY0.out 1).trans rfl⟩ (fun hHeld => ?_)
 clear hK K
 refine norm_ (a' := ?_) ?_ ?_
 rotate_left
 ·show Act.put _ (some 6) _ = _
  simp only [Act.put, List.setIfInBounds_toArray, List.set_cons_zero, List.set_cons_succ, i64_w, i32_w]
  rfl
 refine pure_ (i := 2) (N := some 7) (v := ?_) (a' := ?_) #[true, true, true, false, false, false, false, false, false, false, false, false, false, false, false, false, false, false, false, false, false, false, false, false, false, false, false] rfl rfl (any_of HT_.out (by kernel_rfl)) (fun _ _ _ h => h) (Or.inl ⟨by rfl, ?_⟩) ?_ ?_
 rotate_left
 ·intro w'
  go_simp
  with_reducible rfl
 rotate_left
 ·simp only [Act.put, List.setIfInBounds_toArray, List.set_cons_zero, List.set_cons_succ, i64_w, i32_w]
  rfl
 refine join_ (σ := Value × Value × Value × Value × Value × Value) 17 #[true, true, true, true, true, true, true, true, true, true, false, false, false, false, false, false, false, false, false, false, false, false, false, false, false, false, false] (fun s_ => [(8, s_.1), (9, s_.2.1), (10, s_.2.2.1), (11, s_.2.2.2.1), (12, s_.2.2.2.2.1), (13, s_.2.2.2.2.2), (14, .bool b1)]) (fun s_ w' => (w'.cell? ⟨w.heap.size, 0, none⟩ = some (.slice A0_0 l0_0.length c0_0) ∧ w'.cell? ⟨w.heap.size + 1, 0, none⟩ = some (.slice A1_0 l1_0.length c1_0) ∧ w'.cell? ⟨w.heap.size + 1, 1, none⟩ = some (.slice A1_1 l1_1.length c1_1)) ∧ w'.heap[w.heap.size]? = some (Obj.cells #[Value.slice A0_0 l0_0.length c0_0] 35) ∧ w'.heap[w.heap.size + 1]? = some (Obj.cells #[Value.slice A1_0 l1_0.length c1_0, Value.slice A1_1 l1_1.length c1_1] 24) ∧ Below w.heap.size w w') ?_ ?_
 rotate_left
 ·intro hCont
  rcases b0 with _ | _
  ·have e2 := G1f.out rfl
   subst e2
   refine pure_ (i := 3) (N := some 8) (v := undef) (a' := ?_) #[true, true, true, true, false, false, false, false, false, false, false, false, false, false, false, false, false, false, false, false, false, false, false, false, false, false, false] rfl rfl (any_of HT_.out (by kernel_rfl)) (fun _ _ _ h => h) (Or.inr ⟨by rfl, rfl⟩) ?_ ?_
   rotate_left
   ·simp only [Act.put, List.setIfInBounds_toArray, List.set_cons_zero, List.set_cons_succ, i64_w, i32_w]
    rfl
   refine pure_ (i := 4) (N := some 9) (v := undef) (a' := ?_) #[true, true, true, true, true, false, false, false, false, false, false, false, false, false, false, false, false, false, false, false, false, false, false, false, false, false, false] rfl rfl (any_of HT_.out (by kernel_rfl)) (fun _ _ _ h => h) (Or.inr ⟨by rfl, rfl⟩) ?_ ?_
   rotate_left
   ·simp only [Act.put, List.setIfInBounds_toArray, List.set_cons_zero, List.set_cons_succ, i64_w, i32_w]
    rfl
   refine pure_ (i := 5) (N := some 10) (v := undef) (a' := ?_) #[true, true, true, true, true, true, false, false, false, false, false, false, false, false, false, false, false, false, false, false, false, false, false, false, false, false, false] rfl rfl (any_of HT_.out (by kernel_rfl)) (fun _ _ _ h => h) (Or.inr ⟨by rfl, rfl⟩) ?_ ?_
   rotate_left
   ·simp only [Act.put, List.setIfInBounds_toArray, List.set_cons_zero, List.set_cons_succ, i64_w, i32_w]
    rfl
   refine pure_ (i := 6) (N := some 11) (v := undef) (a' := ?_) #[true, true, true, true, true, true, true, false, false, false, false, false, false, false, false, false, false, false, false, false, false, false, false, false, false, false, false] rfl rfl (any_of HT_.out (by kernel_rfl)) (fun _ _ _ h => h) (Or.inr ⟨by rfl, rfl⟩) ?_ ?_
   rotate_left
   ·simp only [Act.put, List.setIfInBounds_toArray, List.set_cons_zero, List.set_cons_succ, i64_w, i32_w]
    rfl
   refine pure_ (i := 7) (N := some 12) (v := undef) (a' := ?_) #[true, true, true, true, true, true, true, true, false, false, false, false, false, false, false, false, false, false, false, false, false, false, false, false, false, false, false] rfl rfl (any_of HT_.out (by kernel_rfl)) (fun _ _ _ h => h) (Or.inr ⟨by rfl, rfl⟩) ?_ ?_
   rotate_left
   ·simp only [Act.put, List.setIfInBounds_toArray, List.set_cons_zero, List.set_cons_succ, i64_w, i32_w]
    rfl
   refine pure_ (i := 8) (N := some 13) (v := undef) (a' := ?_) #[true, true, true, true, true, true, true, true, true, false, false, false, false, false, false, false, false, false, false, false, false, false, false, false, false, false, false] rfl rfl (any_of HT_.out (by kernel_rfl)) (fun _ _ _ h => h) (Or.inr ⟨by rfl, rfl⟩) ?_ ?_
   rotate_left
   ·simp only [Act.put, List.setIfInBounds_toArray, List.set_cons_zero, List.set_cons_succ, i64_w, i32_w]
    rfl
   refine pure_ (i := 9) (N := some 14) (v := ?_) (a' := ?_) #[true, true, true, true, true, true, true, true, true, true, false, false, false, false, false, false, false, false, false, false, false, false, false, false, false, false, false] rfl rfl (any_of HT_.out (by kernel_rfl)) (fun _ _ _ h => h) (Or.inl ⟨by rfl, ?_⟩) ?_ ?_
   rotate_left
   ·intro w'
    go_simp
    with_reducible rfl
   rotate_left
   ·simp only [Act.put, List.setIfInBounds_toArray, List.set_cons_zero, List.set_cons_succ, i64_w, i32_w]
    rfl
   have zz := hCont (undef, undef, undef, undef, undef, undef) _ ⟨⟨(blk_cell BPY0.out 0).trans rfl, (blk_cell BSY0.out 0).trans rfl, (blk_cell BSY0.out 1).trans rfl⟩, BPY0.out, BSY0.out, HBY0.out⟩
   simp only [putAll, Act.put, List.setIfInBounds_toArray, List.set_cons_zero, List.set_cons_succ] at zz
   exact zz
  ·obtain ⟨e1, e2⟩ := G1.out rfl
   subst e2
   have E1 := am_ e1
   clear e1
   refine pure_ (i := 3) (N := some 8) (v := ?_) (a' := ?_) #[true, true, true, true, false, false, false, false, false, false, false, false, false, false, false, false, false, false, false, false, false, false, false, false, false, false, false] rfl rfl (any_of HT_.out (by kernel_rfl)) (fun _ _ _ h => h) (Or.inl ⟨by rfl, ?_⟩) ?_ ?_
   rotate_left
   ·intro w'
    go_simp
    with_reducible rfl
   rotate_left
   ·simp only [Act.put, List.setIfInBounds_toArray, List.set_cons_zero, List.set_cons_succ, i64_w, i32_w]
    rfl
   refine take_ (i := 4) (N := some 9) (v := ?_) (a' := ?_) #[true, true, true, true, true, false, false, false, false, false, false, false, false, false, false, false, false, false, false, false, false, false, false, false, false, false, false] rfl rfl (take_ofW HT_.out HW_.out (by kernel_rfl)) (fun _ _ _ h => h) (Or.inl ⟨by rfl, ?_⟩) hHeld ?_ ?_
   rotate_left
   ·intro w' s0
    have s1 := s0.2.1
    go_simp
    with_reducible rfl
   rotate_left
   ·simp only [Act.put, List.setIfInBounds_toArray, List.set_cons_zero, List.set_cons_succ, i64_w, i32_w]
    rfl
   refine pure_ (i := 5) (N := some 10) (v := ?_) (a' := ?_) #[true, true, true, true, true, true, false, false, false, false, false, false, false, false, false, false, false, false, false, false, false, false, false, false, false, false, false] rfl rfl (any_of HT_.out (by kernel_rfl)) (fun _ _ _ h => h) (Or.inl ⟨by rfl, ?_⟩) ?_ ?_
   rotate_left
   ·intro w'
    go_simp
    with_reducible rfl
   rotate_left
   ·simp only [Act.put, List.setIfInBounds_toArray, List.set_cons_zero, List.set_cons_succ, i64_w, i32_w]
    rfl
   refine take_ (i := 6) (N := some 11) (v := ?_) (a' := ?_) #[true, true, true, true, true, true, true, false, false, false, false, false, false, false, false, false, false, false, false, false, false, false, false, false, false, false, false] rfl rfl (take_ofW HT_.out HW_.out (by kernel_rfl)) (fun _ _ _ h => h) (Or.inl ⟨by rfl, ?_⟩) hHeld ?_ ?_
   rotate_left
   ·intro w' s0
    have s1 := s0.1
    go_simp
    with_reducible rfl
   rotate_left
   ·simp only [Act.put, List.setIfInBounds_toArray, List.set_cons_zero, List.set_cons_succ, i64_w, i32_w]
    rfl
   refine one_ (i := 7) (N := some 12) #[true, true, true, true, true, true, true, true, false, false, false, false, false, false, false, false, false, false, false, false, false, false, false, false, false, false, false] rfl rfl (one_of HT_.out (by kernel_rfl)) (by decide) (fun K hK => ?_)
   refine goes_ Try.func105 (by kernel_rfl) rfl #[.agg #[.slice A0_0 l0_0.length c0_0]] (by rfl) rfl rfl (by (try simp only [List.map_toArray, List.map_cons, List.map_nil]); first | done | rfl) ?_
   with_reducible refine (spec_ProgReads.calls k _ _ l0_0 m _ (Kd.C_below C0.out HBY0.out) L0.out E1.out).mono ?_
   rintro e Y1 ⟨rfl, hb⟩
   refine ⟨_, rfl, ?_⟩
   have BPY1 := am_ (blk_below BPY0.out hb)
   have BSY1 := am_ (blk_below BSY0.out hb)
   have HBY1 := am_ (below_then HBY0.out HBY0.out.size hb)
   clear hb BPY0 BSY0 HBY0
   refine hK.out _ _ ⟨(blk_cell BPY1.out 0).trans rfl, (blk_cell BSY1.out 0).trans rfl, (blk_cell BSY1.out 1).trans rfl⟩ (fun hHeld => ?_)
   clear hK K
   refine norm_ (a' := ?_) ?_ ?_
   rotate_left
   ·show Act.put _ (some 12) _ = _
    simp only [Act.put, List.setIfInBounds_toArray, List.set_cons_zero, List.set_cons_succ, i64_w, i32_w]
    rfl
   refine pure_ (i := 8) (N := some 13) (v := ?_) (a' := ?_) #[true, true, true, true, true, true, true, true, true, false, false, false, false, false, false, false, false, false, false, false, false, false, false, false, false, false, false] rfl rfl (any_of HT_.out (by kernel_rfl)) (fun _ _ _ h => h) (Or.inl ⟨by rfl, ?_⟩) ?_ ?_
   rotate_left
   ·intro w'
    go_simp
    with_reducible rfl
   rotate_left
   ·simp only [Act.put, List.setIfInBounds_toArray, List.set_cons_zero, List.set_cons_succ, i64_w, i32_w]
    rfl
   refine pure_ (i := 9) (N := some 14) (v := ?_) (a' := ?_) #[true, true, true, true, true, true, true, true, true, true, false, false, false, false, false, false, false, false, false, false, false, false, false, false, false, false, false] rfl rfl (any_of HT_.out (by kernel_rfl)) (fun _ _ _ h => h) (Or.inl ⟨by rfl, ?_⟩) ?_ ?_
   rotate_left
   ·intro w'
    go_simp
    with_reducible rfl
   rotate_left
   ·simp only [Act.put, List.setIfInBounds_toArray, List.set_cons_zero, List.set_cons_succ, i64_w, i32_w]
    rfl
   have zz := hCont (.pointer (some ⟨w.heap.size + 1, 0, none⟩), .slice A1_0 l1_0.length c1_0, .int .i64 l1_0.length, .agg #[.slice A0_0 l0_0.length c0_0], .int .i64 m, .bool ((l1_0.length : Int) == m)) _ ⟨⟨(blk_cell BPY1.out 0).trans rfl, (blk_cell BSY1.out 0).trans rfl, (blk_cell BSY1.out 1).trans rfl⟩, BPY1.out, BSY1.out, HBY1.out⟩
   simp only [putAll, Act.put, List.setIfInBounds_toArray, List.set_cons_zero, List.set_cons_succ] at zz
   exact zz
 rintro ⟨z0, z1, z2, z3, z4, z5⟩ Z1 ⟨hHeld, hp, hs, hb⟩
 clear BPY0 BSY0 HBY0
 have BPJ1 := am_ hp
 have BSJ1 := am_ hs
 have HBJ1 := am_ hb
 clear hp hs hb
 refine norm_ (a' := ?_) ?_ ?_
 rotate_left
 ·simp only [putAll, Act.put, List.setIfInBounds_toArray, List.set_cons_zero, List.set_cons_succ, i64_w, i32_w]
  rfl
 refine pure_ (i := 10) (N := some 15) (v := ?_) (a' := ?_) #[true, true, true, true, true, true, true, true, true, true, true, false, false, false, false, false, false, false, false, false, false, false, false, false, false, false, false] rfl rfl (any_of HT_.out (by kernel_rfl)) (fun _ _ _ h => h) (Or.inl ⟨by rfl, ?_⟩) ?_ ?_
 rotate_left
 ·intro w'
  go_simp
  with_reducible rfl
 rotate_left
 ·simp only [Act.put, List.setIfInBounds_toArray, List.set_cons_zero, List.set_cons_succ, i64_w, i32_w]
  rfl
 refine join_ (σ := Value × Value × Value × Value) 11 #[true, true, true, true, true, true, true, true, true, true, true, true, true, true, true, true, false, false, false, false, false, false, false, false, false, false, false] (fun s_ => [(16, s_.1), (17, s_.2.1), (18, s_.2.2.1), (19, s_.2.2.2), (20, .bool b2)]) (fun s_ w' => (w'.cell? ⟨w.heap.size, 0, none⟩ = some (.slice A0_0 l0_0.length c0_0) ∧ w'.cell? ⟨w.heap.size + 1, 0, none⟩ = some (.slice A1_0 l1_0.length c1_0) ∧ w'.cell? ⟨w.heap.size + 1, 1, none⟩ = some (.slice A1_1 l1_1.length c1_1)) ∧ w'.heap[w.heap.size]? = some (Obj.cells #[Value.slice A0_0 l0_0.length c0_0] 35) ∧ w'.heap[w.heap.size + 1]? = some (Obj.cells #[Value.slice A1_0 l1_0.length c1_0, Value.slice A1_1 l1_1.length c1_1] 24) ∧ Below w.heap.size w w') ?_ ?_
 rotate_left
 ·intro hCont
  rcases b1 with _ | _
  ·have e2 := G2f.out rfl
   subst e2
   refine pure_ (i := 11) (N := some 16) (v := undef) (a' := ?_) #[true, true, true, true, true, true, true, true, true, true, true, true, false, false, false, false, false, false, false, false, false, false, false, false, false, false, false] rfl rfl (any_of HT_.out (by kernel_rfl)) (fun _ _ _ h => h) (Or.inr ⟨by rfl, rfl⟩) ?_ ?_
   rotate_left
   ·simp only [Act.put, List.setIfInBounds_toArray, List.set_cons_zero, List.set_cons_succ, i64_w, i32_w]
    rfl
   refine pure_ (i := 12) (N := some 17) (v := undef) (a' := ?_) #[true, true, true, true, true, true, true, true, true, true, true, true, true, false, false, false, false, false, false, false, false, false, false, false, false, false, false] rfl rfl (any_of HT_.out (by kernel_rfl)) (fun _ _ _ h => h) (Or.inr ⟨by rfl, rfl⟩) ?_ ?_
   rotate_left
   ·simp only [Act.put, List.setIfInBounds_toArray, List.set_cons_zero, List.set_cons_succ, i64_w, i32_w]
    rfl
   refine pure_ (i := 13) (N := some 18) (v := undef) (a' := ?_) #[true, true, true, true, true, true, true, true, true, true, true, true, true, true, false, false, false, false, false, false, false, false, false, false, false, false, false] rfl rfl (any_of HT_.out (by kernel_rfl)) (fun _ _ _ h => h) (Or.inr ⟨by rfl, rfl⟩) ?_ ?_
   rotate_left
   ·simp only [Act.put, List.setIfInBounds_toArray, List.set_cons_zero, List.set_cons_succ, i64_w, i32_w]
    rfl
   refine pure_ (i := 14) (N := some 19) (v := undef) (a' := ?_) #[true, true, true, true, true, true, true, true, true, true, true, true, true, true, true, false, false, false, false, false, false, false, false, false, false, false, false] rfl rfl (any_of HT_.out (by kernel_rfl)) (fun _ _ _ h => h) (Or.inr ⟨by rfl, rfl⟩) ?_ ?_
   rotate_left
   ·simp only [Act.put, List.setIfInBounds_toArray, List.set_cons_zero, List.set_cons_succ, i64_w, i32_w]
    rfl
   refine pure_ (i := 15) (N := some 20) (v := ?_) (a' := ?_) #[true, true, true, true, true, true, true, true, true, true, true, true, true, true, true, true, false, false, false, false, false, false, false, false, false, false, false] rfl rfl (any_of HT_.out (by kernel_rfl)) (fun _ _ _ h => h) (Or.inl ⟨by rfl, ?_⟩) ?_ ?_
   rotate_left
   ·intro w'
    go_simp
    with_reducible rfl
   rotate_left
   ·simp only [Act.put, List.setIfInBounds_toArray, List.set_cons_zero, List.set_cons_succ, i64_w, i32_w]
    rfl
   have zz := hCont (undef, undef, undef, undef) _ ⟨⟨(blk_cell BPJ1.out 0).trans rfl, (blk_cell BSJ1.out 0).trans rfl, (blk_cell BSJ1.out 1).trans rfl⟩, BPJ1.out, BSJ1.out, HBJ1.out⟩
   simp only [putAll, Act.put, List.setIfInBounds_toArray, List.set_cons_zero, List.set_cons_succ] at zz
   exact zz
  ·have e2 := G2.out rfl
   subst e2
   refine pure_ (i := 11) (N := some 16) (v := ?_) (a' := ?_) #[true, true, true, true, true, true, true, true, true, true, true, true, false, false, false, false, false, false, false, false, false, false, false, false, false, false, false] rfl rfl (any_of HT_.out (by kernel_rfl)) (fun _ _ _ h => h) (Or.inl ⟨by rfl, ?_⟩) ?_ ?_
   rotate_left
   ·intro w'
    go_simp
    with_reducible rfl
   rotate_left
   ·simp only [Act.put, List.setIfInBounds_toArray, List.set_cons_zero, List.set_cons_succ, i64_w, i32_w]
    rfl
   refine take_ (i := 12) (N := some 17) (v := ?_) (a' := ?_) #[true, true, true, true, true, true, true, true, true, true, true, true, true, false, false, false, false, false, false, false, false, false, false, false, false, false, false] rfl rfl (take_ofW HT_.out HW_.out (by kernel_rfl)) (fun _ _ _ h => h) (Or.inl ⟨by rfl, ?_⟩) hHeld ?_ ?_
   rotate_left
   ·intro w' s0
    have s1 := s0.2.2
    go_simp
    with_reducible rfl
   rotate_left
   ·simp only [Act.put, List.setIfInBounds_toArray, List.set_cons_zero, List.set_cons_succ, i64_w, i32_w]
    rfl
   refine pure_ (i := 13) (N := some 18) (v := ?_) (a' := ?_) #[true, true, true, true, true, true, true, true, true, true, true, true, true, true, false, false, false, false, false, false, false, false, false, false, false, false, false] rfl rfl (any_of HT_.out (by kernel_rfl)) (fun _ _ _ h => h) (Or.inl ⟨by rfl, ?_⟩) ?_ ?_
   rotate_left
   ·intro w'
    go_simp
    with_reducible rfl
   rotate_left
   ·simp only [Act.put, List.setIfInBounds_toArray, List.set_cons_zero, List.set_cons_succ, i64_w, i32_w]
    rfl
   refine pure_ (i := 14) (N := some 19) (v := ?_) (a' := ?_) #[true, true, true, true, true, true, true, true, true, true, true, true, true, true, true, false, false, false, false, false, false, false, false, false, false, false, false] rfl rfl (any_of HT_.out (by kernel_rfl)) (fun _ _ _ h => h) (Or.inl ⟨by rfl, ?_⟩) ?_ ?_
   rotate_left
   ·intro w'
    go_simp
    with_reducible rfl
   rotate_left
   ·simp only [Act.put, List.setIfInBounds_toArray, List.set_cons_zero, List.set_cons_succ, i64_w, i32_w]
    rfl
   refine pure_ (i := 15) (N := some 20) (v := ?_) (a' := ?_) #[true, true, true, true, true, true, true, true, true, true, true, true, true, true, true, true, false, false, false, false, false, false, false, false, false, false, false] rfl rfl (any_of HT_.out (by kernel_rfl)) (fun _ _ _ h => h) (Or.inl ⟨by rfl, ?_⟩) ?_ ?_
   rotate_left
   ·intro w'
    go_simp
    with_reducible rfl
   rotate_left
   ·simp only [Act.put, List.setIfInBounds_toArray, List.set_cons_zero, List.set_cons_succ, i64_w, i32_w]
    rfl
   have zz := hCont (.pointer (some ⟨w.heap.size + 1, 1, none⟩), .slice A1_1 l1_1.length c1_1, .int .i64 l1_1.length, .bool ((l1_1.length : Int) == 3)) _ ⟨⟨(blk_cell BPJ1.out 0).trans rfl, (blk_cell BSJ1.out 0).trans rfl, (blk_cell BSJ1.out 1).trans rfl⟩, BPJ1.out, BSJ1.out, HBJ1.out⟩
   simp only [putAll, Act.put, List.setIfInBounds_toArray, List.set_cons_zero, List.set_cons_succ] at zz
   exact zz
 rintro ⟨z0, z1, z2, z3⟩ Z2 ⟨hHeld, hp, hs, hb⟩
 clear BPJ1 BSJ1 HBJ1
 have BPJ2 := am_ hp
 have BSJ2 := am_ hs
 have HBJ2 := am_ hb
 clear hp hs hb
 refine norm_ (a' := ?_) ?_ ?_
 rotate_left
 ·simp only [putAll, Act.put, List.setIfInBounds_toArray, List.set_cons_zero, List.set_cons_succ, i64_w, i32_w]
  rfl
 refine pure_ (i := 16) (N := some 21) (v := ?_) (a' := ?_) #[true, true, true, true, true, true, true, true, true, true, true, true, true, true, true, true, true, false, false, false, false, false, false, false, false, false, false] rfl rfl (any_of HT_.out (by kernel_rfl)) (fun _ _ _ h => h) (Or.inl ⟨by rfl, ?_⟩) ?_ ?_
 rotate_left
 ·intro w'
  go_simp
  with_reducible rfl
 rotate_left
 ·simp only [Act.put, List.setIfInBounds_toArray, List.set_cons_zero, List.set_cons_succ, i64_w, i32_w]
  rfl
 refine join_ (σ := Value × Value × Value) 6 #[true, true, true, true, true, true, true, true, true, true, true, true, true, true, true, true, true, true, true, true, true, false, false, false, false, false, false] (fun s_ => [(22, s_.1), (23, s_.2.1), (24, s_.2.2), (25, .bool b3)]) (fun s_ w' => (w'.cell? ⟨w.heap.size, 0, none⟩ = some (.slice A0_0 l0_0.length c0_0) ∧ w'.cell? ⟨w.heap.size + 1, 0, none⟩ = some (.slice A1_0 l1_0.length c1_0) ∧ w'.cell? ⟨w.heap.size + 1, 1, none⟩ = some (.slice A1_1 l1_1.length c1_1)) ∧ w'.heap[w.heap.size]? = some (Obj.cells #[Value.slice A0_0 l0_0.length c0_0] 35) ∧ w'.heap[w.heap.size + 1]? = some (Obj.cells #[Value.slice A1_0 l1_0.length c1_0, Value.slice A1_1 l1_1.length c1_1] 24) ∧ Below w.heap.size w w') ?_ ?_
 rotate_left
 ·intro hCont
  rcases b2 with _ | _
  ·have e2 := G3f.out rfl
   subst e2
   refine pure_ (i := 17) (N := some 22) (v := undef) (a' := ?_) #[true, true, true, true, true, true, true, true, true, true, true, true, true, true, true, true, true, true, false, false, false, false, false, false, false, false, false] rfl rfl (any_of HT_.out (by kernel_rfl)) (fun _ _ _ h => h) (Or.inr ⟨by rfl, rfl⟩) ?_ ?_
   rotate_left
   ·simp only [Act.put, List.setIfInBounds_toArray, List.set_cons_zero, List.set_cons_succ, i64_w, i32_w]
    rfl
   refine pure_ (i := 18) (N := some 23) (v := undef) (a' := ?_) #[true, true, true, true, true, true, true, true, true, true, true, true, true, true, true, true, true, true, true, false, false, false, false, false, false, false, false] rfl rfl (any_of HT_.out (by kernel_rfl)) (fun _ _ _ h => h) (Or.inr ⟨by rfl, rfl⟩) ?_ ?_
   rotate_left
   ·simp only [Act.put, List.setIfInBounds_toArray, List.set_cons_zero, List.set_cons_succ, i64_w, i32_w]
    rfl
   refine pure_ (i := 19) (N := some 24) (v := undef) (a' := ?_) #[true, true, true, true, true, true, true, true, true, true, true, true, true, true, true, true, true, true, true, true, false, false, false, false, false, false, false] rfl rfl (any_of HT_.out (by kernel_rfl)) (fun _ _ _ h => h) (Or.inr ⟨by rfl, rfl⟩) ?_ ?_
   rotate_left
   ·simp only [Act.put, List.setIfInBounds_toArray, List.set_cons_zero, List.set_cons_succ, i64_w, i32_w]
    rfl
   refine pure_ (i := 20) (N := some 25) (v := ?_) (a' := ?_) #[true, true, true, true, true, true, true, true, true, true, true, true, true, true, true, true, true, true, true, true, true, false, false, false, false, false, false] rfl rfl (any_of HT_.out (by kernel_rfl)) (fun _ _ _ h => h) (Or.inl ⟨by rfl, ?_⟩) ?_ ?_
   rotate_left
   ·intro w'
    go_simp
    with_reducible rfl
   rotate_left
   ·simp only [Act.put, List.setIfInBounds_toArray, List.set_cons_zero, List.set_cons_succ, i64_w, i32_w]
    rfl
   have zz := hCont (undef, undef, undef) _ ⟨⟨(blk_cell BPJ2.out 0).trans rfl, (blk_cell BSJ2.out 0).trans rfl, (blk_cell BSJ2.out 1).trans rfl⟩, BPJ2.out, BSJ2.out, HBJ2.out⟩
   simp only [putAll, Act.put, List.setIfInBounds_toArray, List.set_cons_zero, List.set_cons_succ] at zz
   exact zz
  ·have E1 := am_ (G3.out rfl)
   refine pure_ (i := 17) (N := some 22) (v := ?_) (a' := ?_) #[true, true, true, true, true, true, true, true, true, true, true, true, true, true, true, true, true, true, false, false, false, false, false, false, false, false, false] rfl rfl (any_of HT_.out (by kernel_rfl)) (fun _ _ _ h => h) (Or.inl ⟨by rfl, ?_⟩) ?_ ?_
   rotate_left
   ·intro w'
    go_simp
    with_reducible rfl
   rotate_left
   ·simp only [Act.put, List.setIfInBounds_toArray, List.set_cons_zero, List.set_cons_succ, i64_w, i32_w]
    rfl
   refine take_ (i := 18) (N := some 23) (v := ?_) (a' := ?_) #[true, true, true, true, true, true, true, true, true, true, true, true, true, true, true, true, true, true, true, false, false, false, false, false, false, false, false] rfl rfl (take_ofW HT_.out HW_.out (by kernel_rfl)) (fun _ _ _ h => h) (Or.inl ⟨by rfl, ?_⟩) hHeld ?_ ?_
   rotate_left
   ·intro w' s0
    have s1 := s0.2.1
    go_simp
    with_reducible rfl
   rotate_left
   ·simp only [Act.put, List.setIfInBounds_toArray, List.set_cons_zero, List.set_cons_succ, i64_w, i32_w]
    rfl
   refine one_ (i := 19) (N := some 24) #[true, true, true, true, true, true, true, true, true, true, true, true, true, true, true, true, true, true, true, true, false, false, false, false, false, false, false] rfl rfl (one_of HT_.out (by kernel_rfl)) (by decide) (fun K hK => ?_)
   refine goes_ Try.func128 (by kernel_rfl) rfl #[.slice A1_0 l1_0.length c1_0] (by rfl) rfl rfl (by (try simp only [List.map_toArray, List.map_cons, List.map_nil]); first | done | rfl) ?_
   with_reducible refine (spec_l2Vals.calls k _ _ l1_0 b3 _ (Kd.C_below C1.out HBJ2.out) L1.out E1.out).mono ?_
   rintro e Y3 ⟨rfl, hb⟩
   have hb := hb.below
   refine ⟨_, rfl, ?_⟩
   have BPY3 := am_ (blk_below BPJ2.out hb)
   have BSY3 := am_ (blk_below BSJ2.out hb)
   have HBY3 := am_ (below_then HBJ2.out HBJ2.out.size hb)
   clear hb BPJ2 BSJ2 HBJ2
   refine hK.out _ _ ⟨(blk_cell BPY3.out 0).trans rfl, (blk_cell BSY3.out 0).trans rfl, (blk_cell BSY3.out 1).trans rfl⟩ (fun hHeld => ?_)
   clear hK K
   refine norm_ (a' := ?_) ?_ ?_
   rotate_left
   ·show Act.put _ (some 24) _ = _
    simp only [Act.put, List.setIfInBounds_toArray, List.set_cons_zero, List.set_cons_succ, i64_w, i32_w]
    rfl
   refine pure_ (i := 20) (N := some 25) (v := ?_) (a' := ?_) #[true, true, true, true, true, true, true, true, true, true, true, true, true, true, true, true, true, true, true, true, true, false, false, false, false, false, false] rfl rfl (any_of HT_.out (by kernel_rfl)) (fun _ _ _ h => h) (Or.inl ⟨by rfl, ?_⟩) ?_ ?_
   rotate_left
   ·intro w'
    go_simp
    with_reducible rfl
   rotate_left
   ·simp only [Act.put, List.setIfInBounds_toArray, List.set_cons_zero, List.set_cons_succ, i64_w, i32_w]
    rfl
   have zz := hCont (.pointer (some ⟨w.heap.size + 1, 0, none⟩), .slice A1_0 l1_0.length c1_0, .bool b3) _ ⟨⟨(blk_cell BPY3.out 0).trans rfl, (blk_cell BSY3.out 0).trans rfl, (blk_cell BSY3.out 1).trans rfl⟩, BPY3.out, BSY3.out, HBY3.out⟩
   simp only [putAll, Act.put, List.setIfInBounds_toArray, List.set_cons_zero, List.set_cons_succ] at zz
   exact zz
 rintro ⟨z0, z1, z2⟩ Z3 ⟨hHeld, hp, hs, hb⟩
 clear BPJ2 BSJ2 HBJ2
 have BPJ3 := am_ hp
 have BSJ3 := am_ hs
 have HBJ3 := am_ hb
 clear hp hs hb
 refine norm_ (a' := ?_) ?_ ?_
 rotate_left
 ·simp only [putAll, Act.put, List.setIfInBounds_toArray, List.set_cons_zero, List.set_cons_succ, i64_w, i32_w]
  rfl
 refine pure_ (i := 21) (N := some 26) (v := ?_) (a' := ?_) #[true, true, true, true, true, true, true, true, true, true, true, true, true, true, true, true, true, true, true, true, true, true, false, false, false, false, false] rfl rfl (any_of HT_.out (by kernel_rfl)) (fun _ _ _ h => h) (Or.inl ⟨by rfl, ?_⟩) ?_ ?_
 rotate_left
 ·intro w'
  go_simp
  with_reducible rfl
 rotate_left
 ·simp only [Act.put, List.setIfInBounds_toArray, List.set_cons_zero, List.set_cons_succ, i64_w, i32_w]
  rfl
 refine join_ (σ := Value × Value × Value) 1 #[true, true, true, true, true, true, true, true, true, true, true, true, true, true, true, true, true, true, true, true, true, true, true, true, true, true, false] (fun s_ => [(27, s_.1), (28, s_.2.1), (29, s_.2.2), (30, .bool r)]) (fun s_ w' => (w'.cell? ⟨w.heap.size, 0, none⟩ = some (.slice A0_0 l0_0.length c0_0) ∧ w'.cell? ⟨w.heap.size + 1, 0, none⟩ = some (.slice A1_0 l1_0.length c1_0) ∧ w'.cell? ⟨w.heap.size + 1, 1, none⟩ = some (.slice A1_1 l1_1.length c1_1)) ∧ w'.heap[w.heap.size]? = some (Obj.cells #[Value.slice A0_0 l0_0.length c0_0] 35) ∧ w'.heap[w.heap.size + 1]? = some (Obj.cells #[Value.slice A1_0 l1_0.length c1_0, Value.slice A1_1 l1_1.length c1_1] 24) ∧ Below w.heap.size w w') ?_ ?_
 rotate_left
 ·intro hCont
  rcases b3 with _ | _
  ·have e2 := G4f.out rfl
   subst e2
   refine pure_ (i := 22) (N := some 27) (v := undef) (a' := ?_) #[true, true, true, true, true, true, true, true, true, true, true, true, true, true, true, true, true, true, true, true, true, true, true, false, false, false, false] rfl rfl (any_of HT_.out (by kernel_rfl)) (fun _ _ _ h => h) (Or.inr ⟨by rfl, rfl⟩) ?_ ?_
   rotate_left
   ·simp only [Act.put, List.setIfInBounds_toArray, List.set_cons_zero, List.set_cons_succ, i64_w, i32_w]
    rfl
   refine pure_ (i := 23) (N := some 28) (v := undef) (a' := ?_) #[true, true, true, true, true, true, true, true, true, true, true, true, true, true, true, true, true, true, true, true, true, true, true, true, false, false, false] rfl rfl (any_of HT_.out (by kernel_rfl)) (fun _ _ _ h => h) (Or.inr ⟨by rfl, rfl⟩) ?_ ?_
   rotate_left
   ·simp only [Act.put, List.setIfInBounds_toArray, List.set_cons_zero, List.set_cons_succ, i64_w, i32_w]
    rfl
   refine pure_ (i := 24) (N := some 29) (v := undef) (a' := ?_) #[true, true, true, true, true, true, true, true, true, true, true, true, true, true, true, true, true, true, true, true, true, true, true, true, true, false, false] rfl rfl (any_of HT_.out (by kernel_rfl)) (fun _ _ _ h => h) (Or.inr ⟨by rfl, rfl⟩) ?_ ?_
   rotate_left
   ·simp only [Act.put, List.setIfInBounds_toArray, List.set_cons_zero, List.set_cons_succ, i64_w, i32_w]
    rfl
   refine pure_ (i := 25) (N := some 30) (v := ?_) (a' := ?_) #[true, true, true, true, true, true, true, true, true, true, true, true, true, true, true, true, true, true, true, true, true, true, true, true, true, true, false] rfl rfl (any_of HT_.out (by kernel_rfl)) (fun _ _ _ h => h) (Or.inl ⟨by rfl, ?_⟩) ?_ ?_
   rotate_left
   ·intro w'
    go_simp
    with_reducible rfl
   rotate_left
   ·simp only [Act.put, List.setIfInBounds_toArray, List.set_cons_zero, List.set_cons_succ, i64_w, i32_w]
    rfl
   have zz := hCont (undef, undef, undef) _ ⟨⟨(blk_cell BPJ3.out 0).trans rfl, (blk_cell BSJ3.out 0).trans rfl, (blk_cell BSJ3.out 1).trans rfl⟩, BPJ3.out, BSJ3.out, HBJ3.out⟩
   simp only [putAll, Act.put, List.setIfInBounds_toArray, List.set_cons_zero, List.set_cons_succ] at zz
   exact zz
  ·have E1 := am_ (G4.out rfl)
   refine pure_ (i := 22) (N := some 27) (v := ?_) (a' := ?_) #[true, true, true, true, true, true, true, true, true, true, true, true, true, true, true, true, true, true, true, true, true, true, true, false, false, false, false] rfl rfl (any_of HT_.out (by kernel_rfl)) (fun _ _ _ h => h) (Or.inl ⟨by rfl, ?_⟩) ?_ ?_
   rotate_left
   ·intro w'
    go_simp
    with_reducible rfl
   rotate_left
   ·simp only [Act.put, List.setIfInBounds_toArray, List.set_cons_zero, List.set_cons_succ, i64_w, i32_w]
    rfl
   refine take_ (i := 23) (N := some 28) (v := ?_) (a' := ?_) #[true, true, true, true, true, true, true, true, true, true, true, true, true, true, true, true, true, true, true, true, true, true, true, true, false, false, false] rfl rfl (take_ofW HT_.out HW_.out (by kernel_rfl)) (fun _ _ _ h => h) (Or.inl ⟨by rfl, ?_⟩) hHeld ?_ ?_
   rotate_left
   ·intro w' s0
    have s1 := s0.2.2
    go_simp
    with_reducible rfl
   rotate_left
   ·simp only [Act.put, List.setIfInBounds_toArray, List.set_cons_zero, List.set_cons_succ, i64_w, i32_w]
    rfl
   refine one_ (i := 24) (N := some 29) #[true, true, true, true, true, true, true, true, true, true, true, true, true, true, true, true, true, true, true, true, true, true, true, true, true, false, false] rfl rfl (one_of HT_.out (by kernel_rfl)) (by decide) (fun K hK => ?_)
   refine goes_ Try.func128 (by kernel_rfl) rfl #[.slice A1_1 l1_1.length c1_1] (by rfl) rfl rfl (by (try simp only [List.map_toArray, List.map_cons, List.map_nil]); first | done | rfl) ?_
   with_reducible refine (spec_l2Vals.calls k _ _ l1_1 r _ (Kd.C_below C2.out HBJ3.out) L2.out E1.out).mono ?_
   rintro e Y4 ⟨rfl, hb⟩
   have hb := hb.below
   refine ⟨_, rfl, ?_⟩
   have BPY4 := am_ (blk_below BPJ3.out hb)
   have BSY4 := am_ (blk_below BSJ3.out hb)
   have HBY4 := am_ (below_then HBJ3.out HBJ3.out.size hb)
   clear hb BPJ3 BSJ3 HBJ3
   refine hK.out _ _ ⟨(blk_cell BPY4.out 0).trans rfl, (blk_cell BSY4.out 0).trans rfl, (blk_cell BSY4.out 1).trans rfl⟩ (fun hHeld => ?_)
   clear hK K
   refine norm_ (a' := ?_) ?_ ?_
   rotate_left
   ·show Act.put _ (some 29) _ = _
    simp only [Act.put, List.setIfInBounds_toArray, List.set_cons_zero, List.set_cons_succ, i64_w, i32_w]
    rfl
   refine pure_ (i := 25) (N := some 30) (v := ?_) (a' := ?_) #[true, true, true, true, true, true, true, true, true, true, true, true, true, true, true, true, true, true, true, true, true, true, true, true, true, true, false] rfl rfl (any_of HT_.out (by kernel_rfl)) (fun _ _ _ h => h) (Or.inl ⟨by rfl, ?_⟩) ?_ ?_
   rotate_left
   ·intro w'
    go_simp
    with_reducible rfl
   rotate_left
   ·simp only [Act.put, List.setIfInBounds_toArray, List.set_cons_zero, List.set_cons_succ, i64_w, i32_w]
    rfl
   have zz := hCont (.pointer (some ⟨w.heap.size + 1, 1, none⟩), .slice A1_1 l1_1.length c1_1, .bool r) _ ⟨⟨(blk_cell BPY4.out 0).trans rfl, (blk_cell BSY4.out 0).trans rfl, (blk_cell BSY4.out 1).trans rfl⟩, BPY4.out, BSY4.out, HBY4.out⟩
   simp only [putAll, Act.put, List.setIfInBounds_toArray, List.set_cons_zero, List.set_cons_succ] at zz
   exact zz
 rintro ⟨z0, z1, z2⟩ Z4 ⟨hHeld, hp, hs, hb⟩
 clear BPJ3 BSJ3 HBJ3
 have BPJ4 := am_ hp
 have BSJ4 := am_ hs
 have HBJ4 := am_ hb
 clear hp hs hb
 refine norm_ (a' := ?_) ?_ ?_
 rotate_left
 ·simp only [putAll, Act.put, List.setIfInBounds_toArray, List.set_cons_zero, List.set_cons_succ, i64_w, i32_w]
  rfl
 refine pure_ (i := 26) (N := some 4) (v := ?_) (a' := ?_) #[true, true, true, true, true, true, true, true, true, true, true, true, true, true, true, true, true, true, true, true, true, true, true, true, true, true, true] rfl rfl (any_of HT_.out (by kernel_rfl)) (fun _ _ _ h => h) (Or.inl ⟨by rfl, ?_⟩) ?_ ?_
 rotate_left
 ·intro w'
  go_simp
  with_reducible rfl
 rotate_left
 ·simp only [Act.put, List.setIfInBounds_toArray, List.set_cons_zero, List.set_cons_succ, i64_w, i32_w]
  rfl
 refine done_ (done_of HT_.out (by kernel_rfl)) ?_
 clear HT_ HW_ hHeld
 go_wp2_with fail
 refine bodyPost_ret (results_tmp rfl _ _ _) rfl ?_
 exact ⟨rfl, HBJ4.out⟩


end Go.Proofs.Ytefkbmhkhpekjaa.PB

namespace Go.Proofs.Ytefkbmhkhpekjaa.PB
open Go.RowKit Go.Proofs.YtefkbmhkhpekjaaW.PrintWords Go.Proofs.YtefkbmhkhpekjaaW.PrintLast Go.Proofs.YtefkbmhkhpekjaaW.PrintMore
attribute [local go_sem] max2_int min2_int max_two min_two max_three min_three max_four min_four   -- for this text's walks alone
open Go.Proofs.YtefkbmhkhpekjaaMine
set_option linter.unusedVariables false
set_option linter.unusedSimpArgs false

theorem z60_1 {p : Prop} (h : p := by first | rfl | (simp; done) | (simp [*]; done)) : p := h
theorem z60_2 {p : Prop} (h : p := by first | (with_reducible assumption) | assumption) : p := h
theorem z60_3 {p : Prop} (h : p := by first | rfl | (simp [errW_none, errW_some] <;> rfl) | (simp [*, errW_none, errW_some] <;> rfl)) : p := h
theorem z60_4 {p : Prop} (h : p := by repeat (first | (with_reducible first | exact HB.out | apply below_alloc | apply pw_below_drewN | apply below_drew1) | exact HB.out)) : p := h
theorem z60_5 {p : Prop} (h : p := by first | exact Kd.R_nil _ _ _ _ _ | exact Kd.N_nil _ _ _ _ _ | exact Kd.V_nil _ _ _ _ _ | exact Kd.Q_nil _ _ _ _ _ | exact Kd.S_nil _ _ _ _ _) : p := h
theorem z60_6 {p : Prop} (h : p := by repeat (first | (with_reducible first | exact HB.out | apply below_alloc | apply pw_below_drewN | apply below_drew1 | refine below_set ?_ GE1126.out) | exact HB.out)) : p := h
theorem z60_7 {p : Prop} (h : p := by repeat (first | (with_reducible first | exact HB.out | apply below_alloc | apply pw_below_drewN | apply below_drew1 | refine below_set ?_ GE1126.out | refine below_set ?_ GE1127.out) | exact HB.out)) : p := h
theorem z60_8 {p : Prop} (h : p := by repeat (first | (with_reducible first | exact HB.out | apply below_alloc | apply pw_below_drewN | apply below_drew1 | refine below_set ?_ GE1126.out | refine below_set ?_ GE1127.out | refine below_set ?_ GE1128.out) | exact HB.out)) : p := h
theorem z60_9 {p : Prop} (h : p := by repeat (first | (with_reducible first | exact HB.out | apply below_alloc | apply pw_below_drewN | apply below_drew1 | refine below_set ?_ GE1126.out | refine below_set ?_ GE1127.out | refine below_set ?_ GE1128.out | refine below_set ?_ GE1152.out) | exact HB.out)) : p := h
/-! ### spec_TurnSeen: function 60 -/
mutual
def spec_TurnSeen.j0 : Nat → List Int → Bool → List (List (S85)) → List Int → List Int → Option (List Int × List Int × Bool)
  | 0, _, _, _, _, _ => none
  | k + 1, x2, x23, x1127000, x1128000, x1128001 => if x23 = true then (some (([] : List Int), ([] : List Int), false)) else (spec_TurnSeen.l0 k x2 (([0] : List Int)) 0 x1127000 x1128000 x1128001)
def spec_TurnSeen.l0 : Nat → List Int → List Int → Int → List (List (S85)) → List Int → List Int → Option (List Int × List Int × Bool)
  | 0, _, _, _, _, _, _ => none
  | k + 1, x2, x8, x9, x1127000, x1128000, x1128001 => if x9 < (x1127000.length : Int) then (if 0 ≤ x9 then (if x9 < (x8.length : Int) then (if x9 ≤ (wrap64 (x9 + 1)) then (if (wrap64 (x9 + 1)) ≤ (x1127000.length : Int) then ((spec_ProgReads.f k ((x1127000.take ((wrap64 (x9 + 1)) : Int).toNat).drop (x9 : Int).toNat)).bind fun t1139 => (if x8.length < 17592186044416 then (spec_TurnSeen.l0 k x2 (x8 ++ [wrap64 ((rd x8 x9) + t1139)]) (wrap64 (x9 + 1)) x1127000 x1128000 x1128001) else (none))) else (none)) else (none)) else (none)) else (none)) else ((some (([] : List Int) : List Int)).bind fun y1146 => (if y1146.length + x1128001.length < 17592186044416 then (spec_TurnSeen.l1 k x2 x8 0 x1128000 x1128001 (([] : List Int)) (y1146 ++ x1128001)) else (none)))
def spec_TurnSeen.l1 : Nat → List Int → List Int → Int → List Int → List Int → List Int → List Int → Option (List Int × List Int × Bool)
  | 0, _, _, _, _, _, _, _ => none
  | k + 1, x2, x8, x11, x1128000, x1128001, x1153000, x1153001 => if x11 < (x2.length : Int) then (if 0 ≤ x11 then (if 0 ≤ (rd x2 x11) then (if (rd x2 x11) < (x8.length : Int) then (if 0 ≤ (wrap64 ((rd x2 x11) + 1)) then (if (wrap64 ((rd x2 x11) + 1)) < (x8.length : Int) then (if 0 ≤ (rd x8 (rd x2 x11)) then (if (rd x8 (rd x2 x11)) ≤ (rd x8 (wrap64 ((rd x2 x11) + 1))) then (if (rd x8 (wrap64 ((rd x2 x11) + 1))) ≤ (x1128000.length : Int) then (if x1153000.length + ((x1128000.take ((rd x8 (wrap64 ((rd x2 x11) + 1))) : Int).toNat).drop ((rd x8 (rd x2 x11)) : Int).toNat).length < 17592186044416 then (spec_TurnSeen.l1 k x2 x8 (wrap64 (x11 + 1)) x1128000 x1128001 (x1153000 ++ ((x1128000.take ((rd x8 (wrap64 ((rd x2 x11) + 1))) : Int).toNat).drop ((rd x8 (rd x2 x11)) : Int).toNat)) x1153001) else (none)) else (none)) else (none)) else (none)) else (none)) else (none)) else (none)) else (none)) else (none)) else (some (x1153000, x1153001, true))
end
def spec_TurnSeen.f (k : Nat) (l0_0 : List (List (S85))) (l1_0 : List Int) (l1_1 : List Int) (l2 : List Int) : Option (List Int × List Int × Bool) := (spec_SeenOk.f k l0_0 l1_0 l1_1).bind fun t1129 => (if t1129 = true then ((spec_l22Row.f k l2 (l0_0.length : Int)).bind fun t1130 => (spec_TurnSeen.j0 k l2 (!t1130) l0_0 l1_0 l1_1)) else (spec_TurnSeen.j0 k l2 true l0_0 l1_0 l1_1))
def spec_TurnSeen.T7 : Bool × List (List Nat × List Nat) := (true, [([], []), ([], []), ([], []), ([1, 2], [1, 2]), ([3], [3]), ([], []), ([5], [5]), ([], []), ([], []), ([8], [8]), ([6, 7, 9], [6, 7, 9]), ([10], [10]), ([11], [11]), ([4, 12], [4, 12]), ([13], [13]), ([0, 14, 12], [0, 14]), ([15, 15, 0, 1, 2, 3, 4, 5, 6, 7, 8, 9, 10, 11, 12, 13, 14, 15], [0, 1, 15])])
def spec_TurnSeen.B7 : List Nat := [0, 0, 0, 6, 14, 0, 32, 0, 0, 256, 992, 2016, 4064, 8190, 16382, 32767, 65535]
theorem spec_TurnSeen.tab7 : rtab .any (opsOf Try.f60 7) = spec_TurnSeen.T7 := by kernel_rfl
theorem spec_TurnSeen.bits7 : waitsOk spec_TurnSeen.T7.2 spec_TurnSeen.B7 = true := by kernel_rfl
def spec_TurnSeen.T12 : Bool × List (List Nat × List Nat) := (true, [([], []), ([0], [0]), ([], []), ([2], [2]), ([], []), ([], []), ([], []), ([5, 6], [5, 6]), ([7], [7]), ([4, 8], [4, 8]), ([9], [9]), ([], []), ([], []), ([], []), ([12, 13], [12, 13]), ([14], [14]), ([15], [15]), ([11, 16], [11, 16]), ([17], [17]), ([3, 10, 18], [3, 10, 18]), ([1, 19], [1, 19]), ([0, 1, 2, 3, 4, 5, 6, 7, 8, 9, 10, 11, 12, 13, 14, 15, 16, 17, 18, 19, 20], []), ([21, 20, 20, 0, 1, 2, 3, 4, 5, 6, 7, 8, 9, 10, 11, 12, 13, 14, 15, 16, 17, 18, 19, 20], [20, 21])])
def spec_TurnSeen.B12 : List Nat := [0, 1, 0, 4, 0, 0, 0, 96, 224, 496, 1008, 0, 0, 0, 12288, 28672, 61440, 129024, 260096, 524284, 1048575, 2097151, 4194303]
theorem spec_TurnSeen.tab12 : rtab .any (opsOf Try.f60 12) = spec_TurnSeen.T12 := by kernel_rfl
theorem spec_TurnSeen.bits12 : waitsOk spec_TurnSeen.T12.2 spec_TurnSeen.B12 = true := by kernel_rfl
set_option maxHeartbeats 8000000 in
set_option maxRecDepth 100000 in
theorem spec_TurnSeen.calls (k : Nat) (A0_0 : Option Addr) (c0_0 : Nat) (l0_0 : List (List (S85))) (A1_0 : Option Addr) (c1_0 : Nat) (l1_0 : List Int) (A1_1 : Option Addr) (c1_1 : Nat) (l1_1 : List Int) (A2 : Option Addr) (c2 : Nat) (l2 : List Int) (r1 : List Int) (r2 : List Int) (r3 : Bool) (w : World) (hr0_0 : Kd.C (Kd.slice 85 k85) w A0_0 l0_0.length l0_0) (hc0_0 : l0_0.length ≤ c0_0) (hr1_0 : Kd.C (Kd.int .i64) w A1_0 l1_0.length l1_0) (hc1_0 : l1_0.length ≤ c1_0) (hr1_1 : Kd.C (Kd.int .i64) w A1_1 l1_1.length l1_1) (hc1_1 : l1_1.length ≤ c1_1) (hr2 : Kd.C (Kd.int .i64) w A2 l2.length l2) (hc2 : l2.length ≤ c2) (h : spec_TurnSeen.f k l0_0 l1_0 l1_1 l2 = some (r1, r2, r3)) :
  Calls Try.prog 60 #[.agg #[.slice A0_0 l0_0.length c0_0], .agg #[.slice A1_0 l1_0.length c1_0, .slice A1_1 l1_1.length c1_1], .slice A2 l2.length c2] w fun e w' => ∃ v0_ v1_ : Value, e = .returned (.tuple #[.agg #[v0_, v1_], .bool r3]) ∧ Kd.R (Kd.int .i64) 3 w' w.heap.size (fun k_ => some k_ ≠ (v1_ : Value).ownBlock) v0_ r1 ∧ Kd.R (Kd.int .i64) 3 w' w.heap.size (fun k_ => some k_ ≠ (v0_ : Value).ownBlock) v1_ r2 ∧ Below w.heap.size w w' := by
 have hu35 := Try.underlying35
 have hu24 := Try.underlying24
 have HR0_0 := am_ hr0_0
 have HC0_0 := am_ hc0_0
 clear hr0_0 hc0_0
 have HR1_0 := am_ hr1_0
 have HC1_0 := am_ hc1_0
 clear hr1_0 hc1_0
 have HR1_1 := am_ hr1_1
 have HC1_1 := am_ hc1_1
 clear hr1_1 hc1_1
 have HR2 := am_ hr2
 have HC2 := am_ hc2
 clear hr2 hc2
 have HB := am_ (Below.refl w.heap.size w)
 have H : ((spec_SeenOk.f k l0_0 l1_0 l1_1).bind fun t1129 => (if t1129 = true then ((spec_l22Row.f k l2 (l0_0.length : Int)).bind fun t1130 => (spec_TurnSeen.j0 k l2 (!t1130) l0_0 l1_0 l1_1)) else (spec_TurnSeen.j0 k l2 true l0_0 l1_0 l1_1))) = some (r1, r2, r3) := h
 clear h
 have HC4 := am_ H
 clear H
 go_enter Try.func60, Try.ntmps60
 go_upto_region 1 with (first | ((with_reducible refine gate_dst (N := 3) rfl ?_); (try (refine gate_guard (by rfl) ?_; dsimp only)); refine box_event ?hg (N := 3) ?hd (cs := #[.slice A0_0 l0_0.length c0_0]) (t := 35) ?hr ?_; (case hd => rfl); (case hg => rfl); (case hr => first | (go_simp; done) | (go_simp; rfl)); intro gb1126 hg w5 hbox hb; have n0_ := am_ (below_step z60_4 hb); have n1_ := am_ (hbox); have n2_ := am_ (by rw [hg]; exact (below_size z60_4) : w.heap.size ≤ gb1126); have n3_ := am_ (by rw [hg]; exact (below_size z60_4) : w.heap.size ≤ gb1126); clear HB; have HB := n0_; have BK1126 := n1_; have GW1126 := n2_; have GE1126 := n3_; clear n0_ n1_ n2_ n3_; clear hb hbox hg) | ((with_reducible refine gate_dst (N := 4) rfl ?_); (try (refine gate_guard (by rfl) ?_; dsimp only)); refine box_event ?hg (N := 4) ?hd (cs := #[.slice A1_0 l1_0.length c1_0, .slice A1_1 l1_1.length c1_1]) (t := 24) ?hr ?_; (case hd => rfl); (case hg => rfl); (case hr => first | (go_simp; done) | (go_simp; rfl)); intro gb1127 hg w6 hbox hb; have n0_ := am_ (blk_below (bu BK1126.out) hb); have n1_ := am_ (below_step z60_6 hb); have n2_ := am_ (hbox); have n3_ := am_ (by rw [hg]; exact (below_size z60_6) : w.heap.size ≤ gb1127); have n4_ := am_ (by rw [hg]; exact (below_size z60_6) : w.heap.size ≤ gb1127); have n5_ := am_ (by rw [hg]; exact Nat.ne_of_lt (blk_lt (bu BK1126.out)) : gb1126 ≠ gb1127); have n6_ := am_ (by rw [hg]; exact Nat.ne_of_gt (blk_lt (bu BK1126.out)) : gb1127 ≠ gb1126); clear BK1126 HB; have BK1126 := n0_; have HB := n1_; have BK1127 := n2_; have GW1127 := n3_; have GE1127 := n4_; have NB1126_1127 := n5_; have NB1127_1126 := n6_; clear n0_ n1_ n2_ n3_ n4_ n5_ n6_; clear hb hbox hg) | ((with_reducible refine gate_dst (N := 6) rfl ?_); (try (refine gate_guard (by rfl) ?_; dsimp only)); refine box_event ?hg (N := 6) ?hd (cs := #[.slice none 0 0, .slice none 0 0]) (t := 24) ?hr ?_; (case hd => rfl); (case hg => rfl); (case hr => first | (go_simp; done) | (go_simp; rfl)); intro gb1128 hg w7 hbox hb; have n0_ := am_ (blk_below (bu BK1126.out) hb); have n1_ := am_ (blk_below (bu BK1127.out) hb); have n2_ := am_ (below_step z60_7 hb); have n3_ := am_ (hbox); have n4_ := am_ (by rw [hg]; exact (below_size z60_7) : w.heap.size ≤ gb1128); have n5_ := am_ (by rw [hg]; exact (below_size z60_7) : w.heap.size ≤ gb1128); have n6_ := am_ (by rw [hg]; exact Nat.ne_of_lt (blk_lt (bu BK1126.out)) : gb1126 ≠ gb1128); have n7_ := am_ (by rw [hg]; exact Nat.ne_of_gt (blk_lt (bu BK1126.out)) : gb1128 ≠ gb1126); have n8_ := am_ (by rw [hg]; exact Nat.ne_of_lt (blk_lt (bu BK1127.out)) : gb1127 ≠ gb1128); have n9_ := am_ (by rw [hg]; exact Nat.ne_of_gt (blk_lt (bu BK1127.out)) : gb1128 ≠ gb1127); clear BK1126 BK1127 HB; have BK1126 := n0_; have BK1127 := n1_; have HB := n2_; have BK1128 := n3_; have GW1128 := n4_; have GE1128 := n5_; have NB1126_1128 := n6_; have NB1128_1126 := n7_; have NB1127_1128 := n8_; have NB1128_1127 := n9_; clear n0_ n1_ n2_ n3_ n4_ n5_ n6_ n7_ n8_ n9_; clear hb hbox hg))
 (try simp only [Act.put, List.setIfInBounds_toArray, List.set_cons_zero, List.set_cons_succ])
 go_cut [23] (fun v23 wc => ∃ (kq : Nat) (x23_3 : Bool), v23 = .bool x23_3 ∧ Aside0 (spec_TurnSeen.j0 kq l2 x23_3 l0_0 l1_0 l1_1 = some (r1, r2, r3)) ∧ Aside0 (kq ≤ k) ∧ Aside0 (wc.heap[gb1126]? = some (.cells #[(.slice A0_0 l0_0.length c0_0)] 35 (0, 0))) ∧ Aside0 (wc.heap[gb1127]? = some (.cells #[(.slice A1_0 l1_0.length c1_0), (.slice A1_1 l1_1.length c1_1)] 24 (0, 0))) ∧ Aside0 (wc.heap[gb1128]? = some (.cells #[(.slice none 0 0), (.slice none 0 0)] 24 (0, 0))) ∧ Aside0 (Below w.heap.size w wc))
 case first =>
  have H := HC4.out
  clear HC4
  replace H := Option.bind_eq_some_iff.mp H
  obtain ⟨t1129, A80, H⟩ := H
  replace H : (if t1129 = true then ((spec_l22Row.f k l2 (l0_0.length : Int)).bind fun t1130 => (spec_TurnSeen.j0 k l2 (!t1130) l0_0 l1_0 l1_1)) else (spec_TurnSeen.j0 k l2 true l0_0 l1_0 l1_1)) = some (r1, r2, r3) := H
  have A8 := am_ A80
  clear A80
  by_cases c9 : t1129 = true
  ·subst c9
   have H1 : ((spec_l22Row.f k l2 (l0_0.length : Int)).bind fun t1130 => (spec_TurnSeen.j0 k l2 (!t1130) l0_0 l1_0 l1_1)) = some (r1, r2, r3) := by rw [if_pos rfl] at H; exact H
   clear H
   have H := H1
   clear H1
   replace H := Option.bind_eq_some_iff.mp H
   obtain ⟨t1130, A100, H⟩ := H
   replace H : (spec_TurnSeen.j0 k l2 (!t1130) l0_0 l1_0 l1_1) = some (r1, r2, r3) := H
   have A10 := am_ A100
   clear A100
   have H' := am_ H
   clear H
   have hnb11 := NB1126_1127.out
   have hnc11 := NB1127_1126.out
   have hnb12 := NB1126_1128.out
   have hnc12 := NB1128_1126.out
   have hcz13_0 : w7.cell? ⟨gb1126, 0, none⟩ = some (.slice A0_0 l0_0.length c0_0) := (blk_cell BK1126.out 0).trans rfl
   have hfz13_0 := blk_frozen BK1126.out 0
   have hnb14 := NB1127_1128.out
   have hnc14 := NB1128_1127.out
   have hcz15_0 : w7.cell? ⟨gb1127, 0, none⟩ = some (.slice A1_0 l1_0.length c1_0) := (blk_cell BK1127.out 0).trans rfl
   have hcz15_1 : w7.cell? ⟨gb1127, 1, none⟩ = some (.slice A1_1 l1_1.length c1_1) := (blk_cell BK1127.out 1).trans rfl
   have hfz15_0 := blk_frozen BK1127.out 0
   have hfz15_1 := blk_frozen BK1127.out 1
   go_wp2_with (first | ((with_reducible refine gate_callee (f := 104) rfl ?_); refine goesL_ (some 14) rfl rfl Try.func104 (by kernel_rfl) rfl #[.agg #[.slice A0_0 l0_0.length c0_0], .agg #[.slice A1_0 l1_0.length c1_0, .slice A1_1 l1_1.length c1_1]] rfl (by (try simp only [List.map_toArray, List.map_cons, List.map_nil]); first | done | rfl | (simp only [List.length_drop, List.length_take]; rfl)) ?_; (with_reducible refine (spec_SeenOk.calls k _ _ l0_0 _ _ l1_0 _ _ l1_1 true _ ?side1 ?side2 ?side3 ?side4 ?side5 ?side6 A8.out).mono ?_); (case side1 => repeat (first | exact (Kd.C_below HR0_0.out HB.out) | (with_reducible refine Kd.C_alloc ?_ _) | (with_reducible refine Kd.C_drewN ?_ _) | (with_reducible refine Kd.C_drew ?_))); (case side2 => exact HC0_0.out); (case side3 => repeat (first | exact (Kd.C_below HR1_0.out HB.out) | (with_reducible refine Kd.C_alloc ?_ _) | (with_reducible refine Kd.C_drewN ?_ _) | (with_reducible refine Kd.C_drew ?_))); (case side4 => exact HC1_0.out); (case side5 => repeat (first | exact (Kd.C_below HR1_1.out HB.out) | (with_reducible refine Kd.C_alloc ?_ _) | (with_reducible refine Kd.C_drewN ?_ _) | (with_reducible refine Kd.C_drew ?_))); (case side6 => exact HC1_1.out); rintro e w16 ⟨rfl, hb⟩; refine ⟨_, rfl, ?_⟩; have n0_ := am_ (blk_below (bu BK1126.out) hb); have n1_ := am_ (blk_below (bu BK1127.out) hb); have n2_ := am_ (blk_below (bu BK1128.out) hb); have n3_ := am_ (below_step z60_8 hb); clear BK1126 BK1127 BK1128 HB; have BK1126 := n0_; have BK1127 := n1_; have BK1128 := n2_; have HB := n3_; clear n0_ n1_ n2_ n3_; (try clear hb); (try clear hb2); (try clear hk); (try clear hi); have hcz17_0 : w16.cell? ⟨gb1126, 0, none⟩ = some (.slice A0_0 l0_0.length c0_0) := (blk_cell BK1126.out 0).trans rfl; have hfz17_0 := blk_frozen BK1126.out 0) | (go_at_call 100; (with_reducible refine (spec_l22Row.calls k _ _ l2 (l0_0.length : Int) t1130 _ ?side1 ?side2 A10.out).mono ?_); (case side1 => repeat (first | exact (Kd.C_below HR2.out HB.out) | (with_reducible refine Kd.C_alloc ?_ _) | (with_reducible refine Kd.C_drewN ?_ _) | (with_reducible refine Kd.C_drew ?_))); (case side2 => exact HC2.out); rintro e w' ⟨rfl, ⟨nd, rfl⟩⟩))
   go_meet
   case rel => exact ⟨_, (!t1130), z60_1, H', ⟨by first | omega | exact Nat.le_refl _⟩, ⟨bu BK1126.out⟩, ⟨bu BK1127.out⟩, ⟨bu BK1128.out⟩, ⟨z60_8⟩⟩
  ·replace c9 := Bool.eq_false_iff.mpr c9
   subst c9
   have H1 : (spec_TurnSeen.j0 k l2 true l0_0 l1_0 l1_1) = some (r1, r2, r3) := by rw [if_neg (show ¬ (false = true) by decide)] at H; exact H
   clear H
   have H := H1
   clear H1
   have H' := am_ H
   clear H
   have hnb18 := NB1126_1127.out
   have hnc18 := NB1127_1126.out
   have hnb19 := NB1126_1128.out
   have hnc19 := NB1128_1126.out
   have hcz20_0 : w7.cell? ⟨gb1126, 0, none⟩ = some (.slice A0_0 l0_0.length c0_0) := (blk_cell BK1126.out 0).trans rfl
   have hfz20_0 := blk_frozen BK1126.out 0
   have hnb21 := NB1127_1128.out
   have hnc21 := NB1128_1127.out
   have hcz22_0 : w7.cell? ⟨gb1127, 0, none⟩ = some (.slice A1_0 l1_0.length c1_0) := (blk_cell BK1127.out 0).trans rfl
   have hcz22_1 : w7.cell? ⟨gb1127, 1, none⟩ = some (.slice A1_1 l1_1.length c1_1) := (blk_cell BK1127.out 1).trans rfl
   have hfz22_0 := blk_frozen BK1127.out 0
   have hfz22_1 := blk_frozen BK1127.out 1
   go_wp2_with (first | ((with_reducible refine gate_callee (f := 104) rfl ?_); refine goesL_ (some 14) rfl rfl Try.func104 (by kernel_rfl) rfl #[.agg #[.slice A0_0 l0_0.length c0_0], .agg #[.slice A1_0 l1_0.length c1_0, .slice A1_1 l1_1.length c1_1]] rfl (by (try simp only [List.map_toArray, List.map_cons, List.map_nil]); first | done | rfl | (simp only [List.length_drop, List.length_take]; rfl)) ?_; (with_reducible refine (spec_SeenOk.calls k _ _ l0_0 _ _ l1_0 _ _ l1_1 false _ ?side1 ?side2 ?side3 ?side4 ?side5 ?side6 A8.out).mono ?_); (case side1 => repeat (first | exact (Kd.C_below HR0_0.out HB.out) | (with_reducible refine Kd.C_alloc ?_ _) | (with_reducible refine Kd.C_drewN ?_ _) | (with_reducible refine Kd.C_drew ?_))); (case side2 => exact HC0_0.out); (case side3 => repeat (first | exact (Kd.C_below HR1_0.out HB.out) | (with_reducible refine Kd.C_alloc ?_ _) | (with_reducible refine Kd.C_drewN ?_ _) | (with_reducible refine Kd.C_drew ?_))); (case side4 => exact HC1_0.out); (case side5 => repeat (first | exact (Kd.C_below HR1_1.out HB.out) | (with_reducible refine Kd.C_alloc ?_ _) | (with_reducible refine Kd.C_drewN ?_ _) | (with_reducible refine Kd.C_drew ?_))); (case side6 => exact HC1_1.out); rintro e w23 ⟨rfl, hb⟩; refine ⟨_, rfl, ?_⟩; have n0_ := am_ (blk_below (bu BK1126.out) hb); have n1_ := am_ (blk_below (bu BK1127.out) hb); have n2_ := am_ (blk_below (bu BK1128.out) hb); have n3_ := am_ (below_step z60_8 hb); clear BK1126 BK1127 BK1128 HB; have BK1126 := n0_; have BK1127 := n1_; have BK1128 := n2_; have HB := n3_; clear n0_ n1_ n2_ n3_; (try clear hb); (try clear hb2); (try clear hk); (try clear hi)))
   go_meet
   case rel => exact ⟨_, (true), z60_1, H', ⟨by first | omega | exact Nat.le_refl _⟩, ⟨bu BK1126.out⟩, ⟨bu BK1127.out⟩, ⟨bu BK1128.out⟩, ⟨z60_8⟩⟩
 case rest =>
  clear HC4
  obtain ⟨kq, x23_3, rfl, HA, HJ3, BK1126, BK1127, BK1128, HB⟩ := hcut
  cases kq with
  | zero => exact absurd HA.out (by simp [spec_TurnSeen.j0])
  | succ kj3 =>
   have H := HA.out
   clear HA
   simp only [spec_TurnSeen.j0] at H
   by_cases c24 : x23_3 = true
   ·subst c24
    have H1 : (some (([] : List Int), ([] : List Int), false)) = some (r1, r2, r3) := by rw [if_pos rfl] at H; exact H
    clear H
    have H := H1
    clear H1
    simp only [Option.some.injEq, Prod.mk.injEq] at H
    obtain ⟨rfl, rfl, rfl⟩ := H
    have hnb25 := NB1128_1126.out
    have hnc25 := NB1126_1128.out
    have hnb26 := NB1128_1127.out
    have hnc26 := NB1127_1128.out
    have hcz27_0 : wc.cell? ⟨gb1128, 0, none⟩ = some (.slice none 0 0) := (blk_cell BK1128.out 0).trans rfl
    have hcz27_1 : wc.cell? ⟨gb1128, 1, none⟩ = some (.slice none 0 0) := (blk_cell BK1128.out 1).trans rfl
    have hfz27_0 := blk_frozen BK1128.out 0
    have hfz27_1 := blk_frozen BK1128.out 1
    go_wp2
    refine bodyPost_ret (results_ct rfl _ _ gb1128 24 #[.slice none 0 0, .slice none 0 0] (0, 0) _ rfl (by (with_reducible repeat (first | refine blk_drewN ?_ _ | refine blk_drew ?_ | refine blk_alloc ?_ _)); refine blk_put (cs := #[.slice none 0 0, .slice none 0 0]) ?_ 1 _ rfl; (with_reducible repeat (first | refine blk_drewN ?_ _ | refine blk_drew ?_ | refine blk_alloc ?_ _)); refine blk_put (cs := #[.slice none 0 0, .slice none 0 0]) ?_ 0 _ rfl; (with_reducible repeat (first | refine blk_drewN ?_ _ | refine blk_drew ?_ | refine blk_alloc ?_ _)); exact BK1128.out) Try.underlying24 rfl (by kernel_rfl)) rfl ?_
    exact ⟨_, _, z60_3, z60_5, z60_5, z60_8⟩
   ·replace c24 := Bool.eq_false_iff.mpr c24
    subst c24
    have H1 : (spec_TurnSeen.l0 kj3 l2 (([0] : List Int)) 0 l0_0 l1_0 l1_1) = some (r1, r2, r3) := by rw [if_neg (show ¬ (false = true) by decide)] at H; exact H
    clear H
    have H := H1
    clear H1
    obtain ⟨y1131, hy1131⟩ : ∃ y_ : List Int, y_ = (([0] : List Int)) := ⟨_, rfl⟩
    replace H : (spec_TurnSeen.l0 kj3 l2 y1131 0 l0_0 l1_0 l1_1) = some (r1, r2, r3) := by first | (rw [hy1131]; with_reducible exact H) | (have H2_ := (Option.bind_some _ _).symm.trans H; rw [hy1131]; with_reducible exact H2_) | (have H2_ := (Option.bind_some _ _).symm.trans H; with_reducible exact H2_) | with_reducible exact H | (rw [hy1131]; exact H) | exact H
    have Ny1131 := am_ hy1131
    clear hy1131
    have H' := am_ H
    clear H
    go_wp2_with (first | ((with_reducible refine gate_dst (N := 25) rfl ?_); (try (refine gate_guard (by rfl) ?_; dsimp only)); refine Kd.R_lit (Kd.int .i64) _ 3 ?hg (N := 25) ?hd (xs := ([0] : List Int)) (inner := [.int .i64 0]) (ok := fun _ => True) (okp := fun _ => True) ?hr ?hp (fun _ hk => hk) trivial (Below.refl _ _) (Nat.le_refl _) (by simp) ?_; (case hd => rfl); (case hg => rfl); (case hr => first | (go_simp; done) | (go_simp; rfl)); (case hp => exact (Reps.one (show Kd.M (Kd.int .i64) _ _ _ 0 [.int .i64 0] from rfl) (Reps.none _ _))); intro v1132 w28 ho29 hb hg_ hnew_; clear hg_ hnew_; (first | rw [← Ny1131.out] at ho29 | (simp only [Int.reduceToNat] at ho29; rw [← Ny1131.out] at ho29)); have n0_ := am_ (Kd.R_lower ho29 (below_size z60_8)); have n1_ := am_ (blk_below (bu BK1126.out) hb); have n2_ := am_ (blk_below (bu BK1127.out) hb); have n3_ := am_ (blk_below (bu BK1128.out) hb); have n4_ := am_ (below_step z60_8 hb); clear BK1126 BK1127 BK1128 HB; have HO1133 := n0_; have BK1126 := n1_; have BK1127 := n2_; have BK1128 := n3_; have HB := n4_; clear n0_ n1_ n2_ n3_ n4_; clear hb ho29))
    go_loopg [8, 9] kj3 (fun kq v8 v9 w' => ∃ (x8_2 : List Int) (x9_2 : Int), v9 = .int .i64 x9_2 ∧ Aside0 (spec_TurnSeen.l0 kq l2 x8_2 x9_2 l0_0 l1_0 l1_1 = some (r1, r2, r3)) ∧ Aside0 (kq ≤ kj3) ∧ Aside0 (Kd.R (Kd.int .i64) 3 w' w.heap.size (fun _ => True) v8 x8_2) ∧ Aside0 (w'.heap[gb1126]? = some (.cells #[(.slice A0_0 l0_0.length c0_0)] 35 (0, 0))) ∧ Aside0 (w'.heap[gb1127]? = some (.cells #[(.slice A1_0 l1_0.length c1_0), (.slice A1_1 l1_1.length c1_1)] 24 (0, 0))) ∧ Aside0 (w'.heap[gb1128]? = some (.cells #[(.slice none 0 0), (.slice none 0 0)] 24 (0, 0))) ∧ Aside0 (Below w.heap.size w w'))
    case atStart => exact ⟨(y1131), (0), z60_1, H', ⟨Nat.le_refl _⟩, ⟨ru HO1133.out⟩, ⟨bu BK1126.out⟩, ⟨bu BK1127.out⟩, ⟨bu BK1128.out⟩, ⟨z60_8⟩⟩
    case round =>
     clear H'
     obtain ⟨x8_2, x9_2, rfl, HA, HK2, HO_8, BK1126, BK1127, BK1128, HB⟩ := hrel
     cases gk with
     | zero => exact absurd HA.out (by simp [spec_TurnSeen.l0])
     | succ k2 =>
      have H := HA.out
      clear HA
      simp only [spec_TurnSeen.l0] at H
      by_cases c30 : x9_2 < (l0_0.length : Int)
      ·rw [if_pos c30] at H
       have c30b0 : decide (x9_2 < (l0_0.length : Int)) = true := decide_eq_true c30
       clear c30
       by_cases c31 : 0 ≤ x9_2
       ·rw [if_pos c31] at H
        have c31b0 : decide (0 ≤ x9_2) = true := decide_eq_true c31
        clear c31
        by_cases c32 : x9_2 < (x8_2.length : Int)
        ·rw [if_pos c32] at H
         have c32b0 : decide (x9_2 < (x8_2.length : Int)) = true := decide_eq_true c32
         clear c32
         have c33b0 := eq_true (of_decide_eq_true z60_2 : 0 ≤ x9_2)
         by_cases c34 : x9_2 ≤ (wrap64 (x9_2 + 1))
         ·rw [if_pos c34] at H
          have c34b0 := eq_true c34
          have c34b1 : decide (x9_2 ≤ (wrap64 (x9_2 + 1))) = true := decide_eq_true c34
          by_cases c35 : (wrap64 (x9_2 + 1)) ≤ (l0_0.length : Int)
          ·rw [if_pos c35] at H
           have c35b0 := eq_true c35
           have c35b1 : decide ((wrap64 (x9_2 + 1)) ≤ (l0_0.length : Int)) = true := decide_eq_true c35
           obtain ⟨y1135, hy1135⟩ : ∃ y_ : List (List (S85)), y_ = ((l0_0.take ((wrap64 (x9_2 + 1)) : Int).toNat).drop (x9_2 : Int).toNat) := ⟨_, rfl⟩
           replace H : ((spec_ProgReads.f k2 y1135).bind fun t1139 => (if x8_2.length < 17592186044416 then (spec_TurnSeen.l0 k2 l2 (x8_2 ++ [wrap64 ((rd x8_2 x9_2) + t1139)]) (wrap64 (x9_2 + 1)) l0_0 l1_0 l1_1) else (none))) = some (r1, r2, r3) := by first | (rw [hy1135]; with_reducible exact H) | (have H2_ := (Option.bind_some _ _).symm.trans H; rw [hy1135]; with_reducible exact H2_) | (have H2_ := (Option.bind_some _ _).symm.trans H; with_reducible exact H2_) | with_reducible exact H | (rw [hy1135]; exact H) | exact H
           have Ny1135 := am_ hy1135
           clear hy1135
           replace H := Option.bind_eq_some_iff.mp H
           obtain ⟨t1139, A360, H⟩ := H
           replace H : (if x8_2.length < 17592186044416 then (spec_TurnSeen.l0 k2 l2 (x8_2 ++ [wrap64 ((rd x8_2 x9_2) + t1139)]) (wrap64 (x9_2 + 1)) l0_0 l1_0 l1_1) else (none)) = some (r1, r2, r3) := H
           have A36 := am_ A360
           clear A360
           by_cases c37 : x8_2.length < 17592186044416
           ·rw [if_pos c37] at H
            have LMc37 := am_ c37
            clear c37
            obtain ⟨y1140, hy1140⟩ : ∃ y_ : List Int, y_ = (x8_2 ++ [wrap64 ((rd x8_2 x9_2) + t1139)]) := ⟨_, rfl⟩
            replace H : (spec_TurnSeen.l0 k2 l2 y1140 (wrap64 (x9_2 + 1)) l0_0 l1_0 l1_1) = some (r1, r2, r3) := by first | (rw [hy1140]; with_reducible exact H) | (have H2_ := (Option.bind_some _ _).symm.trans H; rw [hy1140]; with_reducible exact H2_) | (have H2_ := (Option.bind_some _ _).symm.trans H; with_reducible exact H2_) | with_reducible exact H | (rw [hy1140]; exact H) | exact H
            have Ny1140 := am_ hy1140
            clear hy1140
            have H' := am_ H
            clear H
            have hnb38 := NB1126_1127.out
            have hnc38 := NB1127_1126.out
            have hnb39 := NB1126_1128.out
            have hnc39 := NB1128_1126.out
            have hcz40_0 : wr.cell? ⟨gb1126, 0, none⟩ = some (.slice A0_0 l0_0.length c0_0) := (blk_cell BK1126.out 0).trans rfl
            have hfz40_0 := blk_frozen BK1126.out 0
            try go_wp2
            have n0_ := am_ (Kd.R_drew HO_8.out)
            have n1_ := am_ (blk_drew BK1126.out)
            have n2_ := am_ (blk_drew BK1127.out)
            have n3_ := am_ (blk_drew BK1128.out)
            have n4_ := am_ (below_drew1 HB.out)
            clear HO_8 BK1126 BK1127 BK1128 HB
            have HO_8 := n0_
            have BK1126 := n1_
            have BK1127 := n2_
            have BK1128 := n3_
            have HB := n4_
            clear n0_ n1_ n2_ n3_ n4_
            obtain ⟨Ao42, co42, eo42⟩ := Kd.R_slice HO_8.out
            (first | subst eo42 | (injection eo42 with f1_ f2_ f3_; have f4_ := f1_.symm; have f5_ := f3_.symm; clear f1_ f2_ f3_; subst f4_; subst f5_))
            have p1134 : 0 ≤ (x9_2 : Int) := of_decide_eq_true z60_2
            have q1134 : x9_2 < (x8_2.length : Int) := of_decide_eq_true z60_2
            obtain ⟨ad1134, e1134, hx1134_0⟩ := Kd.at_int (Kd.R_reads' HO_8.out).2.2 x9_2 p1134 q1134
            cases e1134
            replace p1134 := eq_true p1134
            replace q1134 := eq_true q1134
            have q43 : ((wrap64 (x9_2 + 1)) : Int) ≤ ((l0_0.length : Int) : Int) := of_decide_eq_true z60_2
            obtain ⟨i043, hi043, _, hsz43, _⟩ := info_parts info82
            have hroom43 : l0_0.length ≤ c0_0 := HC0_0.out
            have hC43 : Kd.C (Kd.slice 85 k85) _ A0_0 l0_0.length l0_0 := HR0_0.out
            have ql43 : (x9_2 : Int) ≤ ((wrap64 (x9_2 + 1)) : Int) := of_decide_eq_true z60_2
            have q043 : (0 : Int) ≤ (x9_2 : Int) := of_decide_eq_true z60_2
            have hcut43 := cut_mid (P := Try.prog) 33 82 .i64 .i64 Try.underlying33 hi043 1 hsz43 A0_0 l0_0.length c0_0 x9_2 (wrap64 (x9_2 + 1)) q043 ql43 q43 hroom43
            have hr43 := Kd.C_mid (lo := (x9_2 : Int).toNat) (hi := ((wrap64 (x9_2 + 1)) : Int).toNat) (c := c0_0) hC43 (by omega) (by omega) hroom43
            obtain ⟨A43, hA43⟩ : ∃ A1, A1 = (if c0_0 = (x9_2 : Int).toNat then A0_0 else (A0_0 : Option Addr).map (·.add ((x9_2 : Int).toNat * 1))) := ⟨_, rfl⟩
            obtain ⟨c43, hc43⟩ : ∃ c1, c1 = c0_0 - (x9_2 : Int).toNat := ⟨_, rfl⟩
            have hy43 : y1135.length = ((wrap64 (x9_2 + 1)) : Int).toNat - (x9_2 : Int).toNat := (by rw [Ny1135.out, List.length_drop, List.length_take] <;> omega)
            rw [show ((l0_0).take ((wrap64 (x9_2 + 1)) : Int).toNat).drop (x9_2 : Int).toNat = y1135 from Ny1135.out.symm] at hr43
            replace hr43 : Kd.C (Kd.slice 85 k85) _ A43 y1135.length y1135 := (by rw [hA43]; exact hr43)
            rw [← hy43, ← hA43, ← hc43] at hcut43
            have HR1138 := am_ hr43
            have HC1138 := am_ (show y1135.length ≤ c43 from by rw [hy43, hc43]; exact Nat.sub_le_sub_right (Nat.le_trans (by omega) hroom43) _)
            clear hr43 hC43 hroom43 hi043 hsz43 hc43
            have KY43 := am_ hy43
            have KA43 := am_ hA43
            clear hy43 hA43
            replace q43 := eq_true q43
            refine start_ (n := 17) (S := fun w' => w'.cell? ⟨gb1126, 0, none⟩ = some (.slice A0_0 l0_0.length c0_0) ∧ w'.cell? (ad1134.add (x9_2).toNat) = some (.int .i64 (rd x8_2 x9_2))) (ds := [14, 15]) #[false, false, false, false, false, false, false, false, false, false, false, false, false, false, false, false, false] (by kernel_rfl) rfl rfl ⟨(blk_cell BK1126.out 0).trans rfl, hx1134_0⟩ (fun hHeld => ?_); refine with_tabW spec_TurnSeen.tab7 spec_TurnSeen.bits7 (fun HT_ HW_ => ?_)
            generalize wr.drew = w41 at HO_8 BK1126 BK1127 BK1128 HB HR1138 hx1134_0 hHeld ⊢
            refine pure_ (i := 0) (N := some 33) (v := ?_) (a' := ?_) #[true, false, false, false, false, false, false, false, false, false, false, false, false, false, false, false, false] rfl rfl (any_of HT_.out (by kernel_rfl)) (fun _ _ _ h => h) (Or.inl ⟨by rfl, ?_⟩) ?_ ?_
            rotate_left
            ·intro w'
             go_simp
             with_reducible rfl
            rotate_left
            ·simp only [Act.put, List.setIfInBounds_toArray, List.set_cons_zero, List.set_cons_succ, i64_w, i32_w]
             rfl
            refine pure_ (i := 1) (N := some 34) (v := ?_) (a' := ?_) #[true, true, false, false, false, false, false, false, false, false, false, false, false, false, false, false, false] rfl rfl (any_of HT_.out (by kernel_rfl)) (fun _ _ _ h => h) (Or.inl ⟨by rfl, ?_⟩) ?_ ?_
            rotate_left
            ·intro w'
             go_simp
             with_reducible rfl
            rotate_left
            ·simp only [Act.put, List.setIfInBounds_toArray, List.set_cons_zero, List.set_cons_succ, i64_w, i32_w]
             rfl
            refine pure_ (i := 2) (N := some 35) (v := ?_) (a' := ?_) #[true, true, true, false, false, false, false, false, false, false, false, false, false, false, false, false, false] rfl rfl (any_of HT_.out (by kernel_rfl)) (fun _ _ _ h => h) (Or.inl ⟨by rfl, ?_⟩) ?_ ?_
            rotate_left
            ·intro w'
             go_simp
             with_reducible rfl
            rotate_left
            ·simp only [Act.put, List.setIfInBounds_toArray, List.set_cons_zero, List.set_cons_succ, i64_w, i32_w]
             rfl
            refine pure_ (i := 3) (N := some 36) (v := ?_) (a' := ?_) #[true, true, true, true, false, false, false, false, false, false, false, false, false, false, false, false, false] rfl rfl (any_of HT_.out (by kernel_rfl)) (fun _ _ _ h => h) (Or.inl ⟨by rfl, ?_⟩) ?_ ?_
            rotate_left
            ·intro w'
             go_simp
             with_reducible rfl
            rotate_left
            ·simp only [Act.put, List.setIfInBounds_toArray, List.set_cons_zero, List.set_cons_succ, i64_w, i32_w]
             rfl
            refine pure_ (i := 5) (N := some 38) (v := ?_) (a' := ?_) #[true, true, true, true, false, true, false, false, false, false, false, false, false, false, false, false, false] rfl rfl (any_of HT_.out (by kernel_rfl)) (fun _ _ _ h => h) (Or.inl ⟨by rfl, ?_⟩) ?_ ?_
            rotate_left
            ·intro w'
             go_simp
             with_reducible rfl
            rotate_left
            ·simp only [Act.put, List.setIfInBounds_toArray, List.set_cons_zero, List.set_cons_succ, i64_w, i32_w]
             rfl
            refine pure_ (i := 7) (N := some 40) (v := ?_) (a' := ?_) #[true, true, true, true, false, true, false, true, false, false, false, false, false, false, false, false, false] rfl rfl (any_of HT_.out (by kernel_rfl)) (fun _ _ _ h => h) (Or.inl ⟨by rfl, ?_⟩) ?_ ?_
            rotate_left
            ·intro w'
             go_simp
             with_reducible rfl
            rotate_left
            ·simp only [Act.put, List.setIfInBounds_toArray, List.set_cons_zero, List.set_cons_succ, i64_w, i32_w]
             rfl
            refine pure_ (i := 8) (N := some 41) (v := ?_) (a' := ?_) #[true, true, true, true, false, true, false, true, true, false, false, false, false, false, false, false, false] rfl rfl (any_of HT_.out (by kernel_rfl)) (fun _ _ _ h => h) (Or.inl ⟨by rfl, ?_⟩) ?_ ?_
            rotate_left
            ·intro w'
             go_simp
             with_reducible rfl
            rotate_left
            ·simp only [Act.put, List.setIfInBounds_toArray, List.set_cons_zero, List.set_cons_succ, i64_w, i32_w]
             rfl
            refine pure_ (i := 9) (N := some 42) (v := ?_) (a' := ?_) #[true, true, true, true, false, true, false, true, true, true, false, false, false, false, false, false, false] rfl rfl (any_of HT_.out (by kernel_rfl)) (fun _ _ _ h => h) (Or.inl ⟨by rfl, ?_⟩) ?_ ?_
            rotate_left
            ·intro w'
             go_simp
             with_reducible rfl
            rotate_left
            ·simp only [Act.put, List.setIfInBounds_toArray, List.set_cons_zero, List.set_cons_succ, i64_w, i32_w]
             rfl
            refine take_ (i := 4) (N := some 37) (v := ?_) (a' := ?_) #[true, true, true, true, true, true, false, true, true, true, false, false, false, false, false, false, false] rfl rfl (take_ofW HT_.out HW_.out (by kernel_rfl)) (fun _ _ _ h => h) (Or.inl ⟨by rfl, ?_⟩) hHeld ?_ ?_
            rotate_left
            ·rintro w' ⟨s0, s1⟩
             go_simp
             with_reducible rfl
            rotate_left
            ·simp only [Act.put, List.setIfInBounds_toArray, List.set_cons_zero, List.set_cons_succ, i64_w, i32_w]
             rfl
            refine take_ (i := 6) (N := some 39) (v := ?_) (a' := ?_) #[true, true, true, true, true, true, true, true, true, true, false, false, false, false, false, false, false] rfl rfl (take_ofW HT_.out HW_.out (by kernel_rfl)) (fun _ _ _ h => h) (Or.inl ⟨by rfl, ?_⟩) hHeld ?_ ?_
            rotate_left
            ·rintro w' ⟨s0, s1⟩
             go_simp
             with_reducible rfl
            rotate_left
            ·simp only [Act.put, List.setIfInBounds_toArray, List.set_cons_zero, List.set_cons_succ, i64_w, i32_w]
             rfl
            refine pure_ (i := 10) (N := some 43) (v := ?_) (a' := ?_) #[true, true, true, true, true, true, true, true, true, true, true, false, false, false, false, false, false] rfl rfl (any_of HT_.out (by kernel_rfl)) (fun _ _ _ h => h) (Or.inl ⟨by rfl, ?_⟩) ?_ ?_
            rotate_left
            ·intro w'
             go_simp
             with_reducible rfl
            rotate_left
            ·simp only [Act.put, List.setIfInBounds_toArray, List.set_cons_zero, List.set_cons_succ, i64_w, i32_w]
             rfl
            refine pure_ (i := 11) (N := some 44) (v := ?_) (a' := ?_) #[true, true, true, true, true, true, true, true, true, true, true, true, false, false, false, false, false] rfl rfl (any_of HT_.out (by kernel_rfl)) (fun _ _ _ h => h) (Or.inl ⟨by rfl, ?_⟩) ?_ ?_
            rotate_left
            ·intro w'
             go_simp
             with_reducible rfl
            rotate_left
            ·simp only [Act.put, List.setIfInBounds_toArray, List.set_cons_zero, List.set_cons_succ, i64_w, i32_w]
             rfl
            refine one_ (i := 12) (N := some 45) #[true, true, true, true, true, true, true, true, true, true, true, true, true, false, false, false, false] rfl rfl (one_of HT_.out (by kernel_rfl)) (by decide) (fun K hK => ?_)
            refine goes_ Try.func105 (by kernel_rfl) rfl #[.agg #[.slice A43 y1135.length c43]] (by rfl) rfl rfl (by (try simp only [List.map_toArray, List.map_cons, List.map_nil]); first | done | rfl | (simp only [List.length_drop, List.length_take]; rfl)) ?_
            with_reducible refine (spec_ProgReads.calls k2 _ _ y1135 t1139 _ ?side1 ?side2 A36.out).mono ?_
            (case side1 => repeat (first | exact (Kd.C_below HR1138.out HB.out) | (with_reducible refine Kd.C_alloc ?_ _) | (with_reducible refine Kd.C_drewN ?_ _) | (with_reducible refine Kd.C_drew ?_)))
            (case side2 => exact HC1138.out)
            rintro e w44 ⟨rfl, hb⟩
            have HS1_ := (hb.cell (World.block_lt_of_cell? _ _ (hHeld.2))).trans (hHeld.2)
            refine ⟨_, rfl, ?_⟩
            have n0_ := am_ (Kd.R_below (ru HO_8.out) hb)
            have n1_ := am_ (blk_below (bu BK1126.out) hb)
            have n2_ := am_ (blk_below (bu BK1127.out) hb)
            have n3_ := am_ (blk_below (bu BK1128.out) hb)
            have n4_ := am_ (below_step z60_8 hb)
            clear HO_8 BK1126 BK1127 BK1128 HB
            have HO_8 := n0_
            have BK1126 := n1_
            have BK1127 := n2_
            have BK1128 := n3_
            have HB := n4_
            clear n0_ n1_ n2_ n3_ n4_
            (try clear hb)
            (try clear hb2)
            (try clear hk)
            (try clear hi)
            refine hK.out _ _ ⟨(blk_cell BK1126.out 0).trans rfl, HS1_⟩ (fun hHeld => ?_)
            clear hK K
            refine norm_ (a' := ?_) ?_ ?_
            rotate_left
            ·show Act.put _ (some 45) _ = _
             simp only [Act.put, List.setIfInBounds_toArray, List.set_cons_zero, List.set_cons_succ, i64_w, i32_w]
             rfl
            refine pure_ (i := 13) (N := some 46) (v := ?_) (a' := ?_) #[true, true, true, true, true, true, true, true, true, true, true, true, true, true, false, false, false] rfl rfl (any_of HT_.out (by kernel_rfl)) (fun _ _ _ h => h) (Or.inl ⟨by rfl, ?_⟩) ?_ ?_
            rotate_left
            ·intro w'
             go_simp
             with_reducible rfl
            rotate_left
            ·simp only [Act.put, List.setIfInBounds_toArray, List.set_cons_zero, List.set_cons_succ, i64_w, i32_w]
             rfl
            refine last_ (i := 14) (N := some 47) #[true, true, true, true, true, true, true, true, true, true, true, true, true, true, true, false, false] rfl rfl (one_of HT_.out (by kernel_rfl)) (by decide) (fun K hK => ?_)
            refine value_ (w1 := ?_) (v := ?_) (by rfl) rfl ?_ ?_
            rotate_left 2
            ·go_simp
             constructor
             ·rfl
             ·rfl
            refine hK.out _ _ ?_
            clear hK K
            refine norm_ (a' := ?_) ?_ ?_
            rotate_left
            ·show Act.put _ (some 47) _ = _
             simp only [Act.put, List.setIfInBounds_toArray, List.set_cons_zero, List.set_cons_succ, i64_w, i32_w]
             rfl
            refine last_ (i := 15) (N := some 48) #[true, true, true, true, true, true, true, true, true, true, true, true, true, true, true, true, false] rfl rfl (one_of HT_.out (by kernel_rfl)) (by decide) (fun K hK => ?_)
            refine Kd.R_append_step (Kd.int .i64) (w0 := w) w.heap.size (by rfl) (.tmp 33) (.tmp 47) 22 3 (.int .i64 0) 8 rfl Try.underlying22 info3 rfl (by decide) (by omega) (.slice (some ad1134) x8_2.length co42) x8_2 (wrap64 ((rd x8_2 x9_2) + t1139)) [.int .i64 (wrap64 ((rd x8_2 x9_2) + t1139))] (fun _ => True) (fun _ => False) rfl rfl ?aP (fun _ hk => hk.elim) ?aF ?aO ?aB ?aS ?aL ?_
            (case aP => exact rfl)
            (case aB => exact z60_8)
            (case aF => exact (fun _ _ => trivial))
            (case aO => exact (ru HO_8.out))
            (case aS => exact (below_size z60_8))
            (case aL => have := LMc37.out; omega)
            intro v1141 w45 ho hb hg hat
            rw [← Ny1140.out] at ho
            have n0_ := am_ (blk_grown (bu BK1126.out) hg (Kd.R_ne HO_8.out BK1126.out (by decide)))
            have n1_ := am_ (blk_grown (bu BK1127.out) hg (Kd.R_ne HO_8.out BK1127.out (by decide)))
            have n2_ := am_ (blk_grown (bu BK1128.out) hg (Kd.R_ne HO_8.out BK1128.out (by decide)))
            have n3_ := am_ (hb)
            have n4_ := am_ (ho)
            clear BK1126 BK1127 BK1128 HB HO_8
            have BK1126 := n0_
            have BK1127 := n1_
            have BK1128 := n2_
            have HB := n3_
            have HO1142 := n4_
            clear n0_ n1_ n2_ n3_ n4_ ho hb hg hat
            refine hK.out _ _ ?_
            clear hK K
            refine norm_ (a' := ?_) ?_ ?_
            rotate_left
            ·show Act.put _ (some 48) _ = _
             simp only [Act.put, List.setIfInBounds_toArray, List.set_cons_zero, List.set_cons_succ, i64_w, i32_w]
             rfl
            refine pure_ (i := 16) (N := some 8) (v := ?_) (a' := ?_) #[true, true, true, true, true, true, true, true, true, true, true, true, true, true, true, true, true] rfl rfl (any_of HT_.out (by kernel_rfl)) (fun _ _ _ h => h) (Or.inl ⟨by rfl, ?_⟩) ?_ ?_
            rotate_left
            ·intro w'
             go_simp
             with_reducible rfl
            rotate_left
            ·simp only [Act.put, List.setIfInBounds_toArray, List.set_cons_zero, List.set_cons_succ, i64_w, i32_w]
             rfl
            refine done_ (done_of HT_.out (by kernel_rfl)) ?_
            try go_wp2
            go_roundg k2
            case measure => have := HJ3.out; have := HK2.out; omega
            case rel => exact ⟨(y1140), (wrap64 (x9_2 + 1)), z60_1, H', ⟨by have := HJ3.out; have := HK2.out; omega⟩, ⟨ru HO1142.out⟩, ⟨bu BK1126.out⟩, ⟨bu BK1127.out⟩, ⟨bu BK1128.out⟩, ⟨z60_8⟩⟩
           ·rw [if_neg c37] at H
            exact absurd H (by simp)
          ·rw [if_neg c35] at H
           exact absurd H (by simp)
         ·rw [if_neg c34] at H
          exact absurd H (by simp)
        ·rw [if_neg c32] at H
         exact absurd H (by simp)
       ·rw [if_neg c31] at H
        exact absurd H (by simp)
      ·rw [if_neg c30] at H
       have c30b0 : decide (x9_2 < (l0_0.length : Int)) = false := decide_eq_false c30
       clear c30
       obtain ⟨y1143, hy1143⟩ : ∃ y_ : List Int, y_ = (([] : List Int)) := ⟨_, rfl⟩
       replace H : ((some (([] : List Int) : List Int)).bind fun y1146 => (if y1146.length + l1_1.length < 17592186044416 then (spec_TurnSeen.l1 k2 l2 x8_2 0 l1_0 l1_1 y1143 (y1146 ++ l1_1)) else (none))) = some (r1, r2, r3) := by first | (rw [hy1143]; with_reducible exact H) | (have H2_ := (Option.bind_some _ _).symm.trans H; rw [hy1143]; with_reducible exact H2_) | (have H2_ := (Option.bind_some _ _).symm.trans H; with_reducible exact H2_) | with_reducible exact H | (rw [hy1143]; exact H) | exact H
       have Ny1143 := am_ hy1143
       clear hy1143
       obtain ⟨y1146, hy1146⟩ : ∃ y_ : List Int, y_ = (([] : List Int)) := ⟨_, rfl⟩
       replace H : (if y1146.length + l1_1.length < 17592186044416 then (spec_TurnSeen.l1 k2 l2 x8_2 0 l1_0 l1_1 y1143 (y1146 ++ l1_1)) else (none)) = some (r1, r2, r3) := by first | (rw [hy1146]; with_reducible exact H) | (have H2_ := (Option.bind_some _ _).symm.trans H; rw [hy1146]; with_reducible exact H2_) | (have H2_ := (Option.bind_some _ _).symm.trans H; with_reducible exact H2_) | with_reducible exact H | (rw [hy1146]; exact H) | exact H
       have Ny1146 := am_ hy1146
       clear hy1146
       by_cases c46 : y1146.length + l1_1.length < 17592186044416
       ·rw [if_pos c46] at H
        have LMc46 := am_ c46
        clear c46
        obtain ⟨y1149, hy1149⟩ : ∃ y_ : List Int, y_ = (y1146 ++ l1_1) := ⟨_, rfl⟩
        replace H : (spec_TurnSeen.l1 k2 l2 x8_2 0 l1_0 l1_1 y1143 y1149) = some (r1, r2, r3) := by first | (rw [hy1149]; with_reducible exact H) | (have H2_ := (Option.bind_some _ _).symm.trans H; rw [hy1149]; with_reducible exact H2_) | (have H2_ := (Option.bind_some _ _).symm.trans H; with_reducible exact H2_) | with_reducible exact H | (rw [hy1149]; exact H) | exact H
        have Ny1149 := am_ hy1149
        clear hy1149
        have H' := am_ H
        clear H
        have hnb47 := NB1126_1127.out
        have hnc47 := NB1127_1126.out
        have hnb48 := NB1126_1128.out
        have hnc48 := NB1128_1126.out
        have hcz49_0 : wr.cell? ⟨gb1126, 0, none⟩ = some (.slice A0_0 l0_0.length c0_0) := (blk_cell BK1126.out 0).trans rfl
        have hfz49_0 := blk_frozen BK1126.out 0
        go_wp2_with (first | ((with_reducible refine gate_dst (N := 49) rfl ?_); (try (refine gate_guard (by rfl) ?_; dsimp only)); refine Kd.R_lit (Kd.int .i64) _ 3 ?hg (N := 49) ?hd (xs := ([] : List Int)) (inner := []) (ok := fun _ => True) (okp := fun _ => True) ?hr ?hp (fun _ hk => hk) trivial (Below.refl _ _) (Nat.le_refl _) (by simp) ?_; (case hd => rfl); (case hg => rfl); (case hr => first | (go_simp; done) | (go_simp; rfl)); (case hp => exact (Reps.none _ _)); intro v1144 w50 ho51 hb hg_ hnew_; clear hg_ hnew_; (first | rw [← Ny1143.out] at ho51 | (simp only [Int.reduceToNat] at ho51; rw [← Ny1143.out] at ho51)); have n0_ := am_ (Kd.R_elder' (ru HO_8.out) (Kd.R_base ho51) hb); have n1_ := am_ (Kd.R_lower (Kd.R_new' ho51 (Kd.R_lt (ru HO_8.out))) (below_size z60_8)); have n2_ := am_ (blk_below (bu BK1126.out) hb); have n3_ := am_ (blk_below (bu BK1127.out) hb); have n4_ := am_ (blk_below (bu BK1128.out) hb); have n5_ := am_ (below_step z60_8 hb); clear HO_8 BK1126 BK1127 BK1128 HB; have HO_8 := n0_; have HO1145 := n1_; have BK1126 := n2_; have BK1127 := n3_; have BK1128 := n4_; have HB := n5_; clear n0_ n1_ n2_ n3_ n4_ n5_; clear hb ho51) | ((with_reducible refine gate_dst (N := 50) rfl ?_); (try (refine gate_guard (by rfl) ?_; dsimp only)); refine Kd.R_lit (Kd.int .i64) _ 3 ?hg (N := 50) ?hd (xs := ([] : List Int)) (inner := []) (ok := fun _ => True) (okp := fun _ => True) ?hr ?hp (fun _ hk => hk) trivial (Below.refl _ _) (Nat.le_refl _) (by simp) ?_; (case hd => rfl); (case hg => rfl); (case hr => first | (go_simp; done) | (go_simp; rfl)); (case hp => exact (Reps.none _ _)); intro v1147 w52 ho53 hb hg_ hnew_; clear hg_ hnew_; (first | rw [← Ny1146.out] at ho53 | (simp only [Int.reduceToNat] at ho53; rw [← Ny1146.out] at ho53)); have n0_ := am_ (Kd.R_elder' (ru HO_8.out) (Kd.R_base ho53) hb); have n1_ := am_ (Kd.R_elder' (ru HO1145.out) (Kd.R_base ho53) hb); have n2_ := am_ (Kd.R_lower (Kd.R_new' (Kd.R_new' ho53 (Kd.R_lt (ru HO_8.out))) (Kd.R_lt (ru HO1145.out))) (below_size z60_8)); have n3_ := am_ (blk_below (bu BK1126.out) hb); have n4_ := am_ (blk_below (bu BK1127.out) hb); have n5_ := am_ (blk_below (bu BK1128.out) hb); have n6_ := am_ (below_step z60_8 hb); clear HO_8 HO1145 BK1126 BK1127 BK1128 HB; have HO_8 := n0_; have HO1145 := n1_; have HO1148 := n2_; have BK1126 := n3_; have BK1127 := n4_; have BK1128 := n5_; have HB := n6_; clear n0_ n1_ n2_ n3_ n4_ n5_ n6_; clear hb ho53; have hnb54 := NB1127_1128.out; have hnc54 := NB1128_1127.out; have hcz55_0 : w52.cell? ⟨gb1127, 0, none⟩ = some (.slice A1_0 l1_0.length c1_0) := (blk_cell BK1127.out 0).trans rfl; have hcz55_1 : w52.cell? ⟨gb1127, 1, none⟩ = some (.slice A1_1 l1_1.length c1_1) := (blk_cell BK1127.out 1).trans rfl; have hfz55_0 := blk_frozen BK1127.out 0; have hfz55_1 := blk_frozen BK1127.out 1) | ((with_reducible refine gate_builtin (b := .append) (xs := #[.tmp 50, .tmp 52]) rfl ?_); (try (refine gate_guard (by rfl) ?_; dsimp only)); at_builtin; refine Kd.R_append_rows (Kd.int .i64) (w0 := w) w.heap.size rfl (.tmp 50) (.tmp 52) 22 3 (.int .i64 0) 8 rfl Try.underlying22 info3 rfl (by decide) (by omega) v1147 y1146 l1_1 _ _ _ (fun k_ => some k_ ≠ (u8 : Value).ownBlock ∧ some k_ ≠ (v1144 : Value).ownBlock) (fun _ => False) rfl rfl ?aO ?aR (fun _ _ h => h) (fun _ h => h.elim) ?aF ?aB ?aS ?aL ?_; (case aR => repeat (first | exact (Kd.C_below HR1_1.out HB.out) | (with_reducible refine Kd.C_alloc ?_ _) | (with_reducible refine Kd.C_drewN ?_ _) | (with_reducible refine Kd.C_drew ?_))); (case aB => exact z60_8); (case aF => exact (fun k_ hk => ⟨Kd.fresh' (Kd.R_lt (ru HO_8.out)) k_ hk, Kd.fresh' (Kd.R_lt (ru HO1145.out)) k_ hk⟩)); (case aO => exact (ru (Kd.R_mono HO1148.out (fun _ hk => ⟨hk.1.2, hk.2⟩)))); (case aS => exact (below_size z60_8)); (case aL => have := LMc46.out; omega); intro v1150 w56 ho hb hg hat; rw [← Ny1149.out] at ho; have n0_ := am_ (Kd.R_after (ok := (fun k_ => some k_ ≠ (v1144 : Value).ownBlock)) (ru (Kd.R_mono HO_8.out (fun _ hk => ⟨hk.1.2, hk.2⟩))) hg hat); have n1_ := am_ (blk_grown (bu BK1126.out) hg (Kd.R_ne HO1148.out BK1126.out (by decide))); have n2_ := am_ (blk_grown (bu BK1127.out) hg (Kd.R_ne HO1148.out BK1127.out (by decide))); have n3_ := am_ (blk_grown (bu BK1128.out) hg (Kd.R_ne HO1148.out BK1128.out (by decide))); have n4_ := am_ (Kd.R_after (ok := (fun k_ => some k_ ≠ (u8 : Value).ownBlock)) (ru (Kd.R_mono HO1145.out (fun _ hk => ⟨hk.1.2, hk.2⟩))) hg hat); have n5_ := am_ (hb); have n6_ := am_ (ho); clear HO_8 BK1126 BK1127 BK1128 HO1145 HB HO1148; have HO_8 := n0_; have BK1126 := n1_; have BK1127 := n2_; have BK1128 := n3_; have HO1145 := n4_; have HB := n5_; have HO1151 := n6_; clear n0_ n1_ n2_ n3_ n4_ n5_ n6_; clear ho hb hg hat; obtain ⟨Ao57, co57, eo57⟩ := Kd.R_slice HO1151.out; subst eo57; obtain ⟨Ao58, co58, eo58⟩ := Kd.R_slice HO1145.out; subst eo58) | ((with_reducible refine gate_dst (N := 10) rfl ?_); (try (refine gate_guard (by rfl) ?_; dsimp only)); refine box_event ?hg (N := 10) ?hd (cs := #[.slice none 0 0, .slice none 0 0]) (t := 24) ?hr ?_; (case hd => rfl); (case hg => rfl); (case hr => first | (go_simp; done) | (go_simp; rfl)); intro gb1152 hg w59 hbox hb; have n0_ := am_ (Kd.R_below (ru HO_8.out) hb); have n1_ := am_ (Kd.R_below (ru HO1145.out) hb); have n2_ := am_ (Kd.R_below (ru HO1151.out) hb); have n3_ := am_ (blk_below (bu BK1126.out) hb); have n4_ := am_ (blk_below (bu BK1127.out) hb); have n5_ := am_ (blk_below (bu BK1128.out) hb); have n6_ := am_ (below_step z60_8 hb); have n7_ := am_ (hbox); have n8_ := am_ (by rw [hg]; exact (below_size z60_8) : w.heap.size ≤ gb1152); have n9_ := am_ (by rw [hg]; exact (below_size z60_8) : w.heap.size ≤ gb1152); have n10_ := am_ (by rw [hg]; exact Nat.ne_of_lt (blk_lt (bu BK1126.out)) : gb1126 ≠ gb1152); have n11_ := am_ (by rw [hg]; exact Nat.ne_of_gt (blk_lt (bu BK1126.out)) : gb1152 ≠ gb1126); have n12_ := am_ (by rw [hg]; exact Nat.ne_of_lt (blk_lt (bu BK1127.out)) : gb1127 ≠ gb1152); have n13_ := am_ (by rw [hg]; exact Nat.ne_of_gt (blk_lt (bu BK1127.out)) : gb1152 ≠ gb1127); have n14_ := am_ (by rw [hg]; exact Nat.ne_of_lt (blk_lt (bu BK1128.out)) : gb1128 ≠ gb1152); have n15_ := am_ (by rw [hg]; exact Nat.ne_of_gt (blk_lt (bu BK1128.out)) : gb1152 ≠ gb1128); clear HO_8 HO1145 HO1151 BK1126 BK1127 BK1128 HB; have HO_8 := n0_; have HO1145 := n1_; have HO1151 := n2_; have BK1126 := n3_; have BK1127 := n4_; have BK1128 := n5_; have HB := n6_; have BK1152 := n7_; have GW1152 := n8_; have GE1152 := n9_; have NB1126_1152 := n10_; have NB1152_1126 := n11_; have NB1127_1152 := n12_; have NB1152_1127 := n13_; have NB1128_1152 := n14_; have NB1152_1128 := n15_; clear n0_ n1_ n2_ n3_ n4_ n5_ n6_ n7_ n8_ n9_ n10_ n11_ n12_ n13_ n14_ n15_; clear hb hbox hg; have hnb60 := NB1152_1126.out; have hnc60 := NB1126_1152.out; have hnb61 := NB1152_1127.out; have hnc61 := NB1127_1152.out; have hnb62 := NB1152_1128.out; have hnc62 := NB1128_1152.out; have hcz63_0 : w59.cell? ⟨gb1152, 0, none⟩ = some (.slice none 0 0) := (blk_cell BK1152.out 0).trans rfl; have hcz63_1 : w59.cell? ⟨gb1152, 1, none⟩ = some (.slice none 0 0) := (blk_cell BK1152.out 1).trans rfl; have hfz63_0 := blk_frozen BK1152.out 0; have hfz63_1 := blk_frozen BK1152.out 1))
        go_loopg [11] k2 (fun kq v11 w' => ∃ (x11_3 : Int) (x1153000_3 : List Int) (u1153000 : Value), v11 = .int .i64 x11_3 ∧ Aside0 (spec_TurnSeen.l1 kq l2 x8_2 x11_3 l1_0 l1_1 x1153000_3 y1149 = some (r1, r2, r3)) ∧ Aside0 (kq ≤ k2) ∧ Aside0 (Kd.R (Kd.int .i64) 3 w' w.heap.size (fun k_ => some k_ ≠ (u1153000 : Value).ownBlock ∧ some k_ ≠ ((.slice Ao57 y1149.length co57) : Value).ownBlock) u8 x8_2) ∧ Aside0 (Kd.R (Kd.int .i64) 3 w' w.heap.size (fun k_ => some k_ ≠ (u8 : Value).ownBlock ∧ some k_ ≠ ((.slice Ao57 y1149.length co57) : Value).ownBlock) u1153000 x1153000_3) ∧ Aside0 (Kd.R (Kd.int .i64) 3 w' w.heap.size (fun k_ => some k_ ≠ (u8 : Value).ownBlock ∧ some k_ ≠ (u1153000 : Value).ownBlock) (.slice Ao57 y1149.length co57) y1149) ∧ Aside0 (w'.heap[gb1126]? = some (.cells #[(.slice A0_0 l0_0.length c0_0)] 35 (0, 0))) ∧ Aside0 (w'.heap[gb1127]? = some (.cells #[(.slice A1_0 l1_0.length c1_0), (.slice A1_1 l1_1.length c1_1)] 24 (0, 0))) ∧ Aside0 (w'.heap[gb1128]? = some (.cells #[(.slice none 0 0), (.slice none 0 0)] 24 (0, 0))) ∧ Aside0 (w'.heap[gb1152]? = some (.cells #[u1153000, (.slice Ao57 y1149.length co57)] 24 (0, 0))) ∧ Aside0 (Below w.heap.size w w'))
        case atStart => exact ⟨(0), (y1143), (.slice Ao58 y1143.length co58), z60_1, H', ⟨Nat.le_refl _⟩, ⟨ru (Kd.R_mono (Kd.R_far (p := ⟨gb1152, 1, none⟩) (Kd.R_far (p := ⟨gb1152, 0, none⟩) (Kd.R_types HO_8.out BK1152.out (by decide)) (fun _ hk => hk.2) (.slice Ao58 y1143.length co58)) (fun _ hk => hk.2) (.slice Ao57 y1149.length co57)) (fun _ hk => ⟨hk.1.1, hk.1.2⟩))⟩, ⟨ru (Kd.R_mono (Kd.R_far (p := ⟨gb1152, 1, none⟩) (Kd.R_far (p := ⟨gb1152, 0, none⟩) (Kd.R_types HO1145.out BK1152.out (by decide)) (fun _ hk => hk.2) (.slice Ao58 y1143.length co58)) (fun _ hk => hk.2) (.slice Ao57 y1149.length co57)) (fun _ hk => ⟨hk.1.1, hk.1.2⟩))⟩, ⟨ru (Kd.R_mono (Kd.R_far (p := ⟨gb1152, 1, none⟩) (Kd.R_far (p := ⟨gb1152, 0, none⟩) (Kd.R_types HO1151.out BK1152.out (by decide)) (fun _ hk => hk.2) (.slice Ao58 y1143.length co58)) (fun _ hk => hk.2) (.slice Ao57 y1149.length co57)) (fun _ hk => ⟨hk.1.1, hk.1.2⟩))⟩, ⟨by (with_reducible repeat (first | refine blk_drewN ?_ _ | refine blk_drew ?_ | refine blk_alloc ?_ _)); refine blk_far ?_ NB1126_1152.out _; (with_reducible repeat (first | refine blk_drewN ?_ _ | refine blk_drew ?_ | refine blk_alloc ?_ _)); refine blk_far ?_ NB1126_1152.out _; (with_reducible repeat (first | refine blk_drewN ?_ _ | refine blk_drew ?_ | refine blk_alloc ?_ _)); exact BK1126.out⟩, ⟨by (with_reducible repeat (first | refine blk_drewN ?_ _ | refine blk_drew ?_ | refine blk_alloc ?_ _)); refine blk_far ?_ NB1127_1152.out _; (with_reducible repeat (first | refine blk_drewN ?_ _ | refine blk_drew ?_ | refine blk_alloc ?_ _)); refine blk_far ?_ NB1127_1152.out _; (with_reducible repeat (first | refine blk_drewN ?_ _ | refine blk_drew ?_ | refine blk_alloc ?_ _)); exact BK1127.out⟩, ⟨by (with_reducible repeat (first | refine blk_drewN ?_ _ | refine blk_drew ?_ | refine blk_alloc ?_ _)); refine blk_far ?_ NB1128_1152.out _; (with_reducible repeat (first | refine blk_drewN ?_ _ | refine blk_drew ?_ | refine blk_alloc ?_ _)); refine blk_far ?_ NB1128_1152.out _; (with_reducible repeat (first | refine blk_drewN ?_ _ | refine blk_drew ?_ | refine blk_alloc ?_ _)); exact BK1128.out⟩, ⟨by (with_reducible repeat (first | refine blk_drewN ?_ _ | refine blk_drew ?_ | refine blk_alloc ?_ _)); refine blk_put (cs := #[.slice Ao58 y1143.length co58, .slice none 0 0]) ?_ 1 _ rfl; (with_reducible repeat (first | refine blk_drewN ?_ _ | refine blk_drew ?_ | refine blk_alloc ?_ _)); refine blk_put (cs := #[.slice none 0 0, .slice none 0 0]) ?_ 0 _ rfl; (with_reducible repeat (first | refine blk_drewN ?_ _ | refine blk_drew ?_ | refine blk_alloc ?_ _)); exact BK1152.out⟩, ⟨z60_9⟩⟩
        case round =>
         clear H'
         obtain ⟨x11_3, x1153000_3, u1153000, rfl, HA, HK3, HO_8, HO_1153000, HO_1153001, BK1126, BK1127, BK1128, BK1152, HB⟩ := hrel
         cases gk with
         | zero => exact absurd HA.out (by simp [spec_TurnSeen.l1])
         | succ k3 =>
          have H := HA.out
          clear HA
          simp only [spec_TurnSeen.l1] at H
          by_cases c64 : x11_3 < (l2.length : Int)
          ·rw [if_pos c64] at H
           have c64b0 : decide (x11_3 < (l2.length : Int)) = true := decide_eq_true c64
           clear c64
           by_cases c65 : 0 ≤ x11_3
           ·rw [if_pos c65] at H
            have c65b0 : decide (0 ≤ x11_3) = true := decide_eq_true c65
            clear c65
            by_cases c66 : 0 ≤ (rd l2 x11_3)
            ·rw [if_pos c66] at H
             have c66b0 : decide (0 ≤ (rd l2 x11_3)) = true := decide_eq_true c66
             clear c66
             by_cases c67 : (rd l2 x11_3) < (x8_2.length : Int)
             ·rw [if_pos c67] at H
              have c67b0 : decide ((rd l2 x11_3) < (x8_2.length : Int)) = true := decide_eq_true c67
              clear c67
              obtain ⟨ji68, hji68⟩ : ∃ j_ : Int, (wrap64 ((rd l2 x11_3) + 1)) = j_ := ⟨_, rfl⟩
              replace H : (if 0 ≤ (ji68) then (if (ji68) < (x8_2.length : Int) then (if 0 ≤ (rd x8_2 (rd l2 x11_3)) then (if (rd x8_2 (rd l2 x11_3)) ≤ (rd x8_2 (ji68)) then (if (rd x8_2 (ji68)) ≤ (l1_0.length : Int) then (if x1153000_3.length + ((l1_0.take ((rd x8_2 (ji68)) : Int).toNat).drop ((rd x8_2 (rd l2 x11_3)) : Int).toNat).length < 17592186044416 then (spec_TurnSeen.l1 k3 l2 x8_2 (wrap64 (x11_3 + 1)) l1_0 l1_1 (x1153000_3 ++ ((l1_0.take ((rd x8_2 (ji68)) : Int).toNat).drop ((rd x8_2 (rd l2 x11_3)) : Int).toNat)) y1149) else (none)) else (none)) else (none)) else (none)) else (none)) else (none)) = some (r1, r2, r3) := by first | (rw [hji68] at H; exact H) | (simp only [hji68] at H ⊢; exact H)
              have hji68w : (IntKind.i64.wrap ((rd l2 x11_3) + 1)) = ji68 := (i64_w _).trans hji68
              by_cases c69 : 0 ≤ (ji68)
              ·rw [if_pos c69] at H
               have c69b0 : decide (0 ≤ (ji68)) = true := decide_eq_true c69
               clear c69
               by_cases c70 : (ji68) < (x8_2.length : Int)
               ·rw [if_pos c70] at H
                have c70b0 : decide ((ji68) < (x8_2.length : Int)) = true := decide_eq_true c70
                clear c70
                by_cases c71 : 0 ≤ (rd x8_2 (rd l2 x11_3))
                ·rw [if_pos c71] at H
                 have c71b0 := eq_true c71
                 have c71b1 : decide (0 ≤ (rd x8_2 (rd l2 x11_3))) = true := decide_eq_true c71
                 clear c71
                 by_cases c72 : (rd x8_2 (rd l2 x11_3)) ≤ (rd x8_2 (ji68))
                 ·rw [if_pos c72] at H
                  have c72b0 := eq_true c72
                  have c72b1 : decide ((rd x8_2 (rd l2 x11_3)) ≤ (rd x8_2 (ji68))) = true := decide_eq_true c72
                  clear c72
                  by_cases c73 : (rd x8_2 (ji68)) ≤ (l1_0.length : Int)
                  ·rw [if_pos c73] at H
                   have c73b0 := eq_true c73
                   have c73b1 : decide ((rd x8_2 (ji68)) ≤ (l1_0.length : Int)) = true := decide_eq_true c73
                   clear c73
                   by_cases c74 : x1153000_3.length + ((l1_0.take ((rd x8_2 (ji68)) : Int).toNat).drop ((rd x8_2 (rd l2 x11_3)) : Int).toNat).length < 17592186044416
                   ·rw [if_pos c74] at H
                    have LMc74 := am_ c74
                    clear c74
                    obtain ⟨y1158, hy1158⟩ : ∃ y_ : List Int, y_ = (x1153000_3 ++ ((l1_0.take ((rd x8_2 (ji68)) : Int).toNat).drop ((rd x8_2 (rd l2 x11_3)) : Int).toNat)) := ⟨_, rfl⟩
                    replace H : (spec_TurnSeen.l1 k3 l2 x8_2 (wrap64 (x11_3 + 1)) l1_0 l1_1 y1158 y1149) = some (r1, r2, r3) := by first | (rw [hy1158]; with_reducible exact H) | (have H2_ := (Option.bind_some _ _).symm.trans H; rw [hy1158]; with_reducible exact H2_) | (have H2_ := (Option.bind_some _ _).symm.trans H; with_reducible exact H2_) | with_reducible exact H | (rw [hy1158]; exact H) | exact H
                    have Ny1158 := am_ hy1158
                    clear hy1158
                    have H' := am_ H
                    clear H
                    try go_wp2
                    have n0_ := am_ (Kd.R_drew HO_8.out)
                    have n1_ := am_ (Kd.R_drew HO_1153000.out)
                    have n2_ := am_ (Kd.R_drew HO_1153001.out)
                    have n3_ := am_ (blk_drew BK1126.out)
                    have n4_ := am_ (blk_drew BK1127.out)
                    have n5_ := am_ (blk_drew BK1128.out)
                    have n6_ := am_ (blk_drew BK1152.out)
                    have n7_ := am_ (below_drew1 HB.out)
                    clear HO_8 HO_1153000 HO_1153001 BK1126 BK1127 BK1128 BK1152 HB
                    have HO_8 := n0_
                    have HO_1153000 := n1_
                    have HO_1153001 := n2_
                    have BK1126 := n3_
                    have BK1127 := n4_
                    have BK1128 := n5_
                    have BK1152 := n6_
                    have HB := n7_
                    clear n0_ n1_ n2_ n3_ n4_ n5_ n6_ n7_
                    have p1153 : 0 ≤ (x11_3 : Int) := of_decide_eq_true z60_2
                    have q1153 : x11_3 < (l2.length : Int) := of_decide_eq_true z60_2
                    obtain ⟨ad1153, e1153, hx1153_0⟩ := Kd.at_int HR2.out x11_3 p1153 q1153
                    have hw1153_0 := hx1153_0
                    cases e1153
                    replace hx1153_0 := (HB.out.cell (World.block_lt_of_cell? w _ hx1153_0)).trans hx1153_0
                    replace p1153 := eq_true p1153
                    replace q1153 := eq_true q1153
                    obtain ⟨Ao76, co76, eo76⟩ := Kd.R_slice HO_8.out
                    (first | subst eo76 | (injection eo76 with f1_ f2_ f3_; have f4_ := f1_.symm; have f5_ := f3_.symm; clear f1_ f2_ f3_; subst f4_; subst f5_))
                    have p1154 : 0 ≤ ((rd l2 x11_3) : Int) := of_decide_eq_true z60_2
                    have q1154 : (rd l2 x11_3) < (x8_2.length : Int) := of_decide_eq_true z60_2
                    obtain ⟨ad1154, e1154, hx1154_0⟩ := Kd.at_int (Kd.R_reads' HO_8.out).2.2 (rd l2 x11_3) p1154 q1154
                    cases e1154
                    replace p1154 := eq_true p1154
                    replace q1154 := eq_true q1154
                    have p1155 : 0 ≤ (x11_3 : Int) := of_decide_eq_true z60_2
                    have q1155 : x11_3 < (l2.length : Int) := of_decide_eq_true z60_2
                    obtain ⟨ad1155, e1155, hx1155_0⟩ := Kd.at_int HR2.out x11_3 p1155 q1155
                    have hw1155_0 := hx1155_0
                    obtain rfl : ad1153 = ad1155 := (by injection e1155)
                    replace hx1155_0 := (HB.out.cell (World.block_lt_of_cell? w _ hx1155_0)).trans hx1155_0
                    replace p1155 := eq_true p1155
                    replace q1155 := eq_true q1155
                    have p1156 : 0 ≤ ((ji68) : Int) := of_decide_eq_true z60_2
                    have q1156 : (ji68) < (x8_2.length : Int) := of_decide_eq_true z60_2
                    obtain ⟨ad1156, e1156, hx1156_0⟩ := Kd.at_int (Kd.R_reads' HO_8.out).2.2 (ji68) p1156 q1156
                    obtain rfl : ad1154 = ad1156 := (by injection e1156)
                    replace p1156 := eq_true p1156
                    replace q1156 := eq_true q1156
                    obtain ⟨i077, hi077, _, hsz77, _⟩ := info_parts info3
                    obtain ⟨A77, hcut77, hA77, hC77⟩ := print_mid_of (P := Try.prog) (Value.int .i64) 0 22 3 .i64 .i64 Try.underlying22 hi077 hsz77 A1_0 c1_0 l1_0 (rd x8_2 (rd l2 x11_3)) (rd x8_2 (ji68)) (of_decide_eq_true z60_2) (by first | omega | exact of_decide_eq_true z60_2) (of_decide_eq_true z60_2) HC1_0.out
                    have HR1157 := am_ (Kd.C_of_reads (h1 := fun _ => rfl) (hA77 _ (Kd.reads_of_C HR1_0.out)))
                    have HC1157 := am_ hC77
                    clear hA77 hC77 hi077 hsz77
                    refine start_ (n := 23) (S := fun w' => w'.cell? ⟨gb1152, 0, none⟩ = some (u1153000) ∧ w'.cell? ⟨gb1152, 1, none⟩ = some (.slice Ao57 y1149.length co57) ∧ w'.cell? ⟨gb1127, 0, none⟩ = some (.slice A1_0 l1_0.length c1_0) ∧ w'.cell? ⟨gb1127, 1, none⟩ = some (.slice A1_1 l1_1.length c1_1) ∧ w'.cell? (ad1153.add (x11_3).toNat) = some (.int .i64 (rd l2 x11_3)) ∧ w'.cell? (ad1154.add ((rd l2 x11_3)).toNat) = some (.int .i64 (rd x8_2 (rd l2 x11_3))) ∧ w'.cell? (ad1153.add (x11_3).toNat) = some (.int .i64 (rd l2 x11_3)) ∧ w'.cell? (ad1154.add ((ji68)).toNat) = some (.int .i64 (rd x8_2 (ji68)))) (ds := [20, 22]) #[false, false, false, false, false, false, false, false, false, false, false, false, false, false, false, false, false, false, false, false, false, false, false] (by kernel_rfl) rfl rfl ⟨(blk_cell BK1152.out 0).trans rfl, (blk_cell BK1152.out 1).trans rfl, (blk_cell BK1127.out 0).trans rfl, (blk_cell BK1127.out 1).trans rfl, ((HB.out.cell (World.block_lt_of_cell? w _ hw1153_0)).trans hw1153_0), hx1154_0, ((HB.out.cell (World.block_lt_of_cell? w _ hw1155_0)).trans hw1155_0), hx1156_0⟩ (fun hHeld => ?_); refine with_tabW spec_TurnSeen.tab12 spec_TurnSeen.bits12 (fun HT_ HW_ => ?_)
                    generalize wr.drew = w75 at HO_8 HO_1153000 HO_1153001 BK1126 BK1127 BK1128 BK1152 HB HR1157 hx1153_0 hx1154_0 hx1155_0 hx1156_0 hHeld ⊢
                    refine pure_ (i := 0) (N := some 61) (v := ?_) (a' := ?_) #[true, false, false, false, false, false, false, false, false, false, false, false, false, false, false, false, false, false, false, false, false, false, false] rfl rfl (any_of HT_.out (by kernel_rfl)) (fun _ _ _ h => h) (Or.inl ⟨by rfl, ?_⟩) ?_ ?_
                    rotate_left
                    ·intro w'
                     go_simp
                     with_reducible rfl
                    rotate_left
                    ·simp only [Act.put, List.setIfInBounds_toArray, List.set_cons_zero, List.set_cons_succ, i64_w, i32_w]
                     rfl
                    refine pure_ (i := 2) (N := some 63) (v := ?_) (a' := ?_) #[true, false, true, false, false, false, false, false, false, false, false, false, false, false, false, false, false, false, false, false, false, false, false] rfl rfl (any_of HT_.out (by kernel_rfl)) (fun _ _ _ h => h) (Or.inl ⟨by rfl, ?_⟩) ?_ ?_
                    rotate_left
                    ·intro w'
                     go_simp
                     with_reducible rfl
                    rotate_left
                    ·simp only [Act.put, List.setIfInBounds_toArray, List.set_cons_zero, List.set_cons_succ, i64_w, i32_w]
                     rfl
                    refine pure_ (i := 4) (N := some 65) (v := ?_) (a' := ?_) #[true, false, true, false, true, false, false, false, false, false, false, false, false, false, false, false, false, false, false, false, false, false, false] rfl rfl (any_of HT_.out (by kernel_rfl)) (fun _ _ _ h => h) (Or.inl ⟨by rfl, ?_⟩) ?_ ?_
                    rotate_left
                    ·intro w'
                     go_simp
                     with_reducible rfl
                    rotate_left
                    ·simp only [Act.put, List.setIfInBounds_toArray, List.set_cons_zero, List.set_cons_succ, i64_w, i32_w]
                     rfl
                    refine pure_ (i := 5) (N := some 66) (v := ?_) (a' := ?_) #[true, false, true, false, true, true, false, false, false, false, false, false, false, false, false, false, false, false, false, false, false, false, false] rfl rfl (any_of HT_.out (by kernel_rfl)) (fun _ _ _ h => h) (Or.inl ⟨by rfl, ?_⟩) ?_ ?_
                    rotate_left
                    ·intro w'
                     go_simp
                     with_reducible rfl
                    rotate_left
                    ·simp only [Act.put, List.setIfInBounds_toArray, List.set_cons_zero, List.set_cons_succ, i64_w, i32_w]
                     rfl
                    refine pure_ (i := 6) (N := some 67) (v := ?_) (a' := ?_) #[true, false, true, false, true, true, true, false, false, false, false, false, false, false, false, false, false, false, false, false, false, false, false] rfl rfl (any_of HT_.out (by kernel_rfl)) (fun _ _ _ h => h) (Or.inl ⟨by rfl, ?_⟩) ?_ ?_
                    rotate_left
                    ·intro w'
                     go_simp
                     with_reducible rfl
                    rotate_left
                    ·simp only [Act.put, List.setIfInBounds_toArray, List.set_cons_zero, List.set_cons_succ, i64_w, i32_w]
                     rfl
                    refine pure_ (i := 7) (N := some 68) (v := ?_) (a' := ?_) #[true, false, true, false, true, true, true, true, false, false, false, false, false, false, false, false, false, false, false, false, false, false, false] rfl rfl (any_of HT_.out (by kernel_rfl)) (fun _ _ _ h => h) (Or.inl ⟨by rfl, ?_⟩) ?_ ?_
                    rotate_left
                    ·intro w'
                     go_simp
                     with_reducible rfl
                    rotate_left
                    ·simp only [Act.put, List.setIfInBounds_toArray, List.set_cons_zero, List.set_cons_succ, i64_w, i32_w]
                     rfl
                    refine pure_ (i := 11) (N := some 72) (v := ?_) (a' := ?_) #[true, false, true, false, true, true, true, true, false, false, false, true, false, false, false, false, false, false, false, false, false, false, false] rfl rfl (any_of HT_.out (by kernel_rfl)) (fun _ _ _ h => h) (Or.inl ⟨by rfl, ?_⟩) ?_ ?_
                    rotate_left
                    ·intro w'
                     go_simp
                     with_reducible rfl
                    rotate_left
                    ·simp only [Act.put, List.setIfInBounds_toArray, List.set_cons_zero, List.set_cons_succ, i64_w, i32_w]
                     rfl
                    refine pure_ (i := 12) (N := some 73) (v := ?_) (a' := ?_) #[true, false, true, false, true, true, true, true, false, false, false, true, true, false, false, false, false, false, false, false, false, false, false] rfl rfl (any_of HT_.out (by kernel_rfl)) (fun _ _ _ h => h) (Or.inl ⟨by rfl, ?_⟩) ?_ ?_
                    rotate_left
                    ·intro w'
                     go_simp
                     with_reducible rfl
                    rotate_left
                    ·simp only [Act.put, List.setIfInBounds_toArray, List.set_cons_zero, List.set_cons_succ, i64_w, i32_w]
                     rfl
                    refine pure_ (i := 13) (N := some 74) (v := ?_) (a' := ?_) #[true, false, true, false, true, true, true, true, false, false, false, true, true, true, false, false, false, false, false, false, false, false, false] rfl rfl (any_of HT_.out (by kernel_rfl)) (fun _ _ _ h => h) (Or.inl ⟨by rfl, ?_⟩) ?_ ?_
                    rotate_left
                    ·intro w'
                     go_simp
                     with_reducible rfl
                    rotate_left
                    ·simp only [Act.put, List.setIfInBounds_toArray, List.set_cons_zero, List.set_cons_succ, i64_w, i32_w]
                     rfl
                    refine pure_ (i := 14) (N := some 75) (v := ?_) (a' := ?_) #[true, false, true, false, true, true, true, true, false, false, false, true, true, true, true, false, false, false, false, false, false, false, false] rfl rfl (any_of HT_.out (by kernel_rfl)) (fun _ _ _ h => h) (Or.inl ⟨by rfl, ?_⟩) ?_ ?_
                    rotate_left
                    ·intro w'
                     go_simp
                     with_reducible rfl
                    rotate_left
                    ·simp only [Act.put, List.setIfInBounds_toArray, List.set_cons_zero, List.set_cons_succ, i64_w, i32_w]
                     rfl
                    refine take_ (i := 1) (N := some 62) (v := ?_) (a' := ?_) #[true, true, true, false, true, true, true, true, false, false, false, true, true, true, true, false, false, false, false, false, false, false, false] rfl rfl (take_ofW HT_.out HW_.out (by kernel_rfl)) (fun _ _ _ h => h) (Or.inl ⟨by rfl, ?_⟩) hHeld ?_ ?_
                    rotate_left
                    ·rintro w' ⟨s0, s1, s2, s3, s4, s5, s6, s7⟩
                     go_simp
                     with_reducible rfl
                    rotate_left
                    ·simp only [Act.put, List.setIfInBounds_toArray, List.set_cons_zero, List.set_cons_succ, i64_w, i32_w]
                     rfl
                    refine take_ (i := 3) (N := some 64) (v := ?_) (a' := ?_) #[true, true, true, true, true, true, true, true, false, false, false, true, true, true, true, false, false, false, false, false, false, false, false] rfl rfl (take_ofW HT_.out HW_.out (by kernel_rfl)) (fun _ _ _ h => h) (Or.inl ⟨by rfl, ?_⟩) hHeld ?_ ?_
                    rotate_left
                    ·rintro w' ⟨s0, s1, s2, s3, s4, s5, s6, s7⟩
                     go_simp
                     with_reducible rfl
                    rotate_left
                    ·simp only [Act.put, List.setIfInBounds_toArray, List.set_cons_zero, List.set_cons_succ, i64_w, i32_w]
                     rfl
                    refine take_ (i := 8) (N := some 69) (v := ?_) (a' := ?_) #[true, true, true, true, true, true, true, true, true, false, false, true, true, true, true, false, false, false, false, false, false, false, false] rfl rfl (take_ofW HT_.out HW_.out (by kernel_rfl)) (fun _ _ _ h => h) (Or.inl ⟨by rfl, ?_⟩) hHeld ?_ ?_
                    rotate_left
                    ·rintro w' ⟨s0, s1, s2, s3, s4, s5, s6, s7⟩
                     go_simp
                     with_reducible rfl
                    rotate_left
                    ·simp only [Act.put, List.setIfInBounds_toArray, List.set_cons_zero, List.set_cons_succ, i64_w, i32_w]
                     rfl
                    refine pure_ (i := 9) (N := some 70) (v := ?_) (a' := ?_) #[true, true, true, true, true, true, true, true, true, true, false, true, true, true, true, false, false, false, false, false, false, false, false] rfl rfl (any_of HT_.out (by kernel_rfl)) (fun _ _ _ h => h) (Or.inl ⟨by rfl, ?_⟩) ?_ ?_
                    rotate_left
                    ·intro w'
                     go_simp
                     with_reducible rfl
                    rotate_left
                    ·simp only [Act.put, List.setIfInBounds_toArray, List.set_cons_zero, List.set_cons_succ, i64_w, i32_w]
                     rfl
                    refine take_ (i := 10) (N := some 71) (v := ?_) (a' := ?_) #[true, true, true, true, true, true, true, true, true, true, true, true, true, true, true, false, false, false, false, false, false, false, false] rfl rfl (take_ofW HT_.out HW_.out (by kernel_rfl)) (fun _ _ _ h => h) (Or.inl ⟨by rfl, ?_⟩) hHeld ?_ ?_
                    rotate_left
                    ·rintro w' ⟨s0, s1, s2, s3, s4, s5, s6, s7⟩
                     go_simp
                     with_reducible rfl
                    rotate_left
                    ·simp only [Act.put, List.setIfInBounds_toArray, List.set_cons_zero, List.set_cons_succ, i64_w, i32_w]
                     rfl
                    refine take_ (i := 15) (N := some 76) (v := ?_) (a' := ?_) #[true, true, true, true, true, true, true, true, true, true, true, true, true, true, true, true, false, false, false, false, false, false, false] rfl rfl (take_ofW HT_.out HW_.out (by kernel_rfl)) (fun _ _ _ h => h) (Or.inl ⟨by rfl, ?_⟩) hHeld ?_ ?_
                    rotate_left
                    ·rintro w' ⟨s0, s1, s2, s3, s4, s5, s6, s7⟩
                     go_simp
                     with_reducible rfl
                    rotate_left
                    ·simp only [Act.put, List.setIfInBounds_toArray, List.set_cons_zero, List.set_cons_succ, i64_w, i32_w]
                     rfl
                    refine pure_ (i := 16) (N := some 77) (v := ?_) (a' := ?_) #[true, true, true, true, true, true, true, true, true, true, true, true, true, true, true, true, true, false, false, false, false, false, false] rfl rfl (any_of HT_.out (by kernel_rfl)) (fun _ _ _ h => h) (Or.inl ⟨by rfl, ?_⟩) ?_ ?_
                    rotate_left
                    ·intro w'
                     go_simp
                     with_reducible rfl
                    rotate_left
                    ·simp only [Act.put, List.setIfInBounds_toArray, List.set_cons_zero, List.set_cons_succ, i64_w, i32_w]
                     rfl
                    refine pure_ (i := 17) (N := some 78) (v := ?_) (a' := ?_) #[true, true, true, true, true, true, true, true, true, true, true, true, true, true, true, true, true, true, false, false, false, false, false] rfl rfl (any_of HT_.out (by kernel_rfl)) (fun _ _ _ h => h) (Or.inl ⟨by rfl, ?_⟩) ?_ ?_
                    rotate_left
                    ·intro w'
                     go_simp
                     with_reducible rfl
                    rotate_left
                    ·simp only [Act.put, List.setIfInBounds_toArray, List.set_cons_zero, List.set_cons_succ, i64_w, i32_w]
                     rfl
                    refine take_ (i := 18) (N := some 79) (v := ?_) (a' := ?_) #[true, true, true, true, true, true, true, true, true, true, true, true, true, true, true, true, true, true, true, false, false, false, false] rfl rfl (take_ofW HT_.out HW_.out (by kernel_rfl)) (fun _ _ _ h => h) (Or.inl ⟨by rfl, ?_⟩) hHeld ?_ ?_
                    rotate_left
                    ·rintro w' ⟨s0, s1, s2, s3, s4, s5, s6, s7⟩
                     go_simp
                     with_reducible rfl
                    rotate_left
                    ·simp only [Act.put, List.setIfInBounds_toArray, List.set_cons_zero, List.set_cons_succ, i64_w, i32_w]
                     rfl
                    refine pure_ (i := 19) (N := some 80) (v := ?_) (a' := ?_) #[true, true, true, true, true, true, true, true, true, true, true, true, true, true, true, true, true, true, true, true, false, false, false] rfl rfl (any_of HT_.out (by kernel_rfl)) (fun _ _ _ h => h) (Or.inl ⟨by rfl, ?_⟩) ?_ ?_
                    rotate_left
                    ·intro w'
                     go_simp
                     with_reducible rfl
                    rotate_left
                    ·simp only [Act.put, List.setIfInBounds_toArray, List.set_cons_zero, List.set_cons_succ, i64_w, i32_w]
                     rfl
                    refine last_ (i := 20) (N := some 81) #[true, true, true, true, true, true, true, true, true, true, true, true, true, true, true, true, true, true, true, true, true, false, false] rfl rfl (one_of HT_.out (by kernel_rfl)) (by decide) (fun K hK => ?_)
                    refine Kd.R_append_rows_step (Kd.int .i64) (w0 := w) w.heap.size (by rfl) (.tmp 62) (.tmp 80) 22 3 (.int .i64 0) 8 rfl Try.underlying22 info3 rfl (by decide) (by omega) u1153000 x1153000_3 ((l1_0.take ((rd x8_2 (ji68)) : Int).toNat).drop ((rd x8_2 (rd l2 x11_3)) : Int).toNat) _ _ _ (fun k_ => some k_ ≠ (.slice (some ad1154) x8_2.length co76 : Value).ownBlock ∧ some k_ ≠ (.slice Ao57 y1149.length co57 : Value).ownBlock) (fun _ => False) rfl rfl ?aO ?aR (fun _ _ h => h) (fun _ h => h.elim) ?aF ?aB ?aS ?aL ?_
                    (case aR => first | (rw [← show ((l1_0.take ((rd x8_2 (ji68)) : Int).toNat).drop ((rd x8_2 (rd l2 x11_3)) : Int).toNat).length = ((rd x8_2 (ji68)).toNat - (rd x8_2 (rd l2 x11_3)).toNat) from (by rw [List.length_drop, List.length_take]; have h_ : ((rd x8_2 (ji68)) : Int) ≤ (l1_0.length : Int) := of_decide_eq_true z60_2; omega)]; repeat (first | exact (Kd.C_below HR1157.out HB.out) | (with_reducible refine Kd.C_alloc ?_ _) | (with_reducible refine Kd.C_drewN ?_ _) | (with_reducible refine Kd.C_drew ?_))) | (repeat (first | exact (Kd.C_below HR1157.out HB.out) | (with_reducible refine Kd.C_alloc ?_ _) | (with_reducible refine Kd.C_drewN ?_ _) | (with_reducible refine Kd.C_drew ?_))))
                    (case aB => exact z60_9)
                    (case aF => exact (fun k_ hk => ⟨Kd.fresh' (Kd.R_lt (ru HO_8.out)) k_ hk, Kd.fresh' (Kd.R_lt (ru HO_1153001.out)) k_ hk⟩))
                    (case aO => exact (ru HO_1153000.out))
                    (case aS => exact (below_size z60_9))
                    (case aL => have := LMc74.out; have hlx_ := (show ((l1_0.take ((rd x8_2 (ji68)) : Int).toNat).drop ((rd x8_2 (rd l2 x11_3)) : Int).toNat).length = ((rd x8_2 (ji68)).toNat - (rd x8_2 (rd l2 x11_3)).toNat) from (by rw [List.length_drop, List.length_take]; have h_ : ((rd x8_2 (ji68)) : Int) ≤ (l1_0.length : Int) := of_decide_eq_true z60_2; omega)); omega)
                    intro v1159 w78 ho hb hg hat
                    rw [← Ny1158.out] at ho
                    have n0_ := am_ (Kd.R_after (ok := (fun k_ => some k_ ≠ (.slice Ao57 y1149.length co57 : Value).ownBlock)) (ru (Kd.R_mono HO_8.out (fun _ hk => ⟨hk.2, hk.1⟩))) hg hat)
                    have n1_ := am_ (Kd.R_after (ok := (fun k_ => some k_ ≠ (.slice (some ad1154) x8_2.length co76 : Value).ownBlock)) (ru HO_1153001.out) hg hat)
                    have n2_ := am_ (blk_grown (bu BK1126.out) hg (Kd.R_ne HO_1153000.out BK1126.out (by decide)))
                    have n3_ := am_ (blk_grown (bu BK1127.out) hg (Kd.R_ne HO_1153000.out BK1127.out (by decide)))
                    have n4_ := am_ (blk_grown (bu BK1128.out) hg (Kd.R_ne HO_1153000.out BK1128.out (by decide)))
                    have n5_ := am_ (blk_grown (bu BK1152.out) hg (Kd.R_ne HO_1153000.out BK1152.out (by decide)))
                    have n6_ := am_ (hb)
                    have n7_ := am_ (ho)
                    clear HO_8 HO_1153001 BK1126 BK1127 BK1128 BK1152 HB HO_1153000
                    have HO_8 := n0_
                    have HO_1153001 := n1_
                    have BK1126 := n2_
                    have BK1127 := n3_
                    have BK1128 := n4_
                    have BK1152 := n5_
                    have HB := n6_
                    have HO1160 := n7_
                    clear n0_ n1_ n2_ n3_ n4_ n5_ n6_ n7_ ho hb hg hat
                    obtain ⟨Ao79, co79, eo79⟩ := Kd.R_slice HO1160.out
                    (first | subst eo79 | (injection eo79 with f1_ f2_ f3_; have f4_ := f1_.symm; have f5_ := f3_.symm; clear f1_ f2_ f3_; subst f4_; subst f5_))
                    refine hK.out _ _ ?_
                    clear hK K
                    refine norm_ (a' := ?_) ?_ ?_
                    rotate_left
                    ·show Act.put _ (some 81) _ = _
                     simp only [Act.put, List.setIfInBounds_toArray, List.set_cons_zero, List.set_cons_succ, i64_w, i32_w]
                     rfl
                    refine pure_ (i := 21) (N := some 82) (v := ?_) (a' := ?_) #[true, true, true, true, true, true, true, true, true, true, true, true, true, true, true, true, true, true, true, true, true, true, false] rfl rfl (any_of HT_.out (by kernel_rfl)) (fun _ _ _ h => h) (Or.inl ⟨by rfl, ?_⟩) ?_ ?_
                    rotate_left
                    ·intro w'
                     go_simp
                     with_reducible rfl
                    rotate_left
                    ·simp only [Act.put, List.setIfInBounds_toArray, List.set_cons_zero, List.set_cons_succ, i64_w, i32_w]
                     rfl
                    refine last_ (i := 22) (N := none) #[true, true, true, true, true, true, true, true, true, true, true, true, true, true, true, true, true, true, true, true, true, true, true] rfl rfl (one_of HT_.out (by kernel_rfl)) (by decide) (fun K hK => ?_)
                    have hs80 : w78.cell? ⟨gb1152, 0, none⟩ = some (u1153000) := (blk_cell BK1152.out 0).trans rfl
                    have hfs80 := blk_frozen BK1152.out 0
                    have hns80_0 := NB1126_1152.out
                    have hns80_1 := NB1127_1152.out
                    have hns80_2 := NB1128_1152.out
                    have hms80_0 := NB1152_1126.out
                    have hms80_1 := NB1152_1127.out
                    have hms80_2 := NB1152_1128.out
                    refine skip_ (w1 := ?_) (by rfl) rfl ?_ ?_
                    rotate_left
                    ·go_simp
                     rfl
                    refine hK.out _ _ ?_
                    clear hK K
                    refine done_ (done_of HT_.out (by kernel_rfl)) ?_
                    try go_wp2
                    go_roundg k3
                    case measure => have := HJ3.out; have := HK2.out; have := HK3.out; omega
                    case rel => exact ⟨(wrap64 (x11_3 + 1)), (y1158), (.slice Ao79 y1158.length co79), z60_1, H', ⟨by have := HJ3.out; have := HK2.out; have := HK3.out; omega⟩, ⟨ru (Kd.R_mono (Kd.R_far (p := ⟨gb1152, 0, none⟩) (Kd.R_types HO_8.out BK1152.out (by decide)) (fun _ hk => hk.2) (.slice Ao79 y1158.length co79)) (fun _ hk => ⟨hk.1.2, hk.1.1⟩))⟩, ⟨ru (Kd.R_mono (Kd.R_far (p := ⟨gb1152, 0, none⟩) (Kd.R_types HO1160.out BK1152.out (by decide)) (fun _ hk => hk.2) (.slice Ao79 y1158.length co79)) (fun _ hk => ⟨hk.1.1, hk.1.2⟩))⟩, ⟨ru (Kd.R_mono (Kd.R_far (p := ⟨gb1152, 0, none⟩) (Kd.R_types HO_1153001.out BK1152.out (by decide)) (fun _ hk => hk.2) (.slice Ao79 y1158.length co79)) (fun _ hk => ⟨hk.1.1, hk.1.2⟩))⟩, ⟨by (with_reducible repeat (first | refine blk_drewN ?_ _ | refine blk_drew ?_ | refine blk_alloc ?_ _)); refine blk_far ?_ NB1126_1152.out _; (with_reducible repeat (first | refine blk_drewN ?_ _ | refine blk_drew ?_ | refine blk_alloc ?_ _)); exact BK1126.out⟩, ⟨by (with_reducible repeat (first | refine blk_drewN ?_ _ | refine blk_drew ?_ | refine blk_alloc ?_ _)); refine blk_far ?_ NB1127_1152.out _; (with_reducible repeat (first | refine blk_drewN ?_ _ | refine blk_drew ?_ | refine blk_alloc ?_ _)); exact BK1127.out⟩, ⟨by (with_reducible repeat (first | refine blk_drewN ?_ _ | refine blk_drew ?_ | refine blk_alloc ?_ _)); refine blk_far ?_ NB1128_1152.out _; (with_reducible repeat (first | refine blk_drewN ?_ _ | refine blk_drew ?_ | refine blk_alloc ?_ _)); exact BK1128.out⟩, ⟨by (with_reducible repeat (first | refine blk_drewN ?_ _ | refine blk_drew ?_ | refine blk_alloc ?_ _)); refine blk_put (cs := #[u1153000, .slice Ao57 y1149.length co57]) ?_ 0 _ rfl; (with_reducible repeat (first | refine blk_drewN ?_ _ | refine blk_drew ?_ | refine blk_alloc ?_ _)); exact BK1152.out⟩, ⟨z60_9⟩⟩
                   ·rw [if_neg c74] at H
                    exact absurd H (by simp)
                  ·rw [if_neg c73] at H
                   exact absurd H (by simp)
                 ·rw [if_neg c72] at H
                  exact absurd H (by simp)
                ·rw [if_neg c71] at H
                 exact absurd H (by simp)
               ·rw [if_neg c70] at H
                exact absurd H (by simp)
              ·rw [if_neg c69] at H
               exact absurd H (by simp)
             ·rw [if_neg c67] at H
              exact absurd H (by simp)
            ·rw [if_neg c66] at H
             exact absurd H (by simp)
           ·rw [if_neg c65] at H
            exact absurd H (by simp)
          ·rw [if_neg c64] at H
           have c64b0 : decide (x11_3 < (l2.length : Int)) = false := decide_eq_false c64
           clear c64
           simp only [Option.some.injEq, Prod.mk.injEq] at H
           obtain ⟨rfl, rfl, rfl⟩ := H
           have hnb81 := NB1152_1126.out
           have hnc81 := NB1126_1152.out
           have hnb82 := NB1152_1127.out
           have hnc82 := NB1127_1152.out
           have hnb83 := NB1152_1128.out
           have hnc83 := NB1128_1152.out
           have hcz84_0 : wr.cell? ⟨gb1152, 0, none⟩ = some (u1153000) := (blk_cell BK1152.out 0).trans rfl
           have hcz84_1 : wr.cell? ⟨gb1152, 1, none⟩ = some (.slice Ao57 y1149.length co57) := (blk_cell BK1152.out 1).trans rfl
           have hfz84_0 := blk_frozen BK1152.out 0
           have hfz84_1 := blk_frozen BK1152.out 1
           obtain ⟨Ao85, co85, eo85⟩ := Kd.R_slice HO_1153000.out
           subst eo85
           have hnb86 := NB1128_1126.out
           have hnc86 := NB1126_1128.out
           have hnb87 := NB1128_1127.out
           have hnc87 := NB1127_1128.out
           have hcz88_0 : wr.cell? ⟨gb1128, 0, none⟩ = some (.slice none 0 0) := (blk_cell BK1128.out 0).trans rfl
           have hcz88_1 : wr.cell? ⟨gb1128, 1, none⟩ = some (.slice none 0 0) := (blk_cell BK1128.out 1).trans rfl
           have hfz88_0 := blk_frozen BK1128.out 0
           have hfz88_1 := blk_frozen BK1128.out 1
           go_wp2
           refine bodyPost_ret (results_ct rfl _ _ gb1128 24 #[.slice Ao85 x1153000_3.length co85, .slice Ao57 y1149.length co57] (0, 0) _ rfl (by (with_reducible repeat (first | refine blk_drewN ?_ _ | refine blk_drew ?_ | refine blk_alloc ?_ _)); refine blk_put (cs := #[.slice Ao85 x1153000_3.length co85, .slice none 0 0]) ?_ 1 _ rfl; (with_reducible repeat (first | refine blk_drewN ?_ _ | refine blk_drew ?_ | refine blk_alloc ?_ _)); refine blk_put (cs := #[.slice none 0 0, .slice none 0 0]) ?_ 0 _ rfl; (with_reducible repeat (first | refine blk_drewN ?_ _ | refine blk_drew ?_ | refine blk_alloc ?_ _)); exact BK1128.out) Try.underlying24 rfl (by kernel_rfl)) rfl ?_
           exact ⟨_, _, z60_3, ru (Kd.R_mono (Kd.R_far (p := ⟨gb1128, 1, none⟩) (Kd.R_far (p := ⟨gb1128, 0, none⟩) (Kd.R_types HO_1153000.out BK1128.out (by decide)) (fun _ hk => hk.2) (.slice Ao85 x1153000_3.length co85)) (fun _ hk => hk.2) (.slice Ao57 y1149.length co57)) (fun _ hk => hk.1.2)), ru (Kd.R_mono (Kd.R_far (p := ⟨gb1128, 1, none⟩) (Kd.R_far (p := ⟨gb1128, 0, none⟩) (Kd.R_types HO_1153001.out BK1128.out (by decide)) (fun _ hk => hk.2) (.slice Ao85 x1153000_3.length co85)) (fun _ hk => hk.2) (.slice Ao57 y1149.length co57)) (fun _ hk => hk.1.2)), z60_9⟩
       ·rw [if_neg c46] at H
        exact absurd H (by simp)

end Go.Proofs.Ytefkbmhkhpekjaa.PB

namespace Go.Proofs.Ytefkbmhkhpekjaa.PB
open Go.RowKit Go.Proofs.YtefkbmhkhpekjaaW.PrintWords Go.Proofs.YtefkbmhkhpekjaaW.PrintLast Go.Proofs.YtefkbmhkhpekjaaW.PrintMore
attribute [local go_sem] max2_int min2_int max_two min_two max_three min_three max_four min_four   -- for this text's walks alone
open Go.Proofs.YtefkbmhkhpekjaaMine
set_option linter.unusedVariables false
set_option linter.unusedSimpArgs false

theorem z114_1 {p : Prop} (h : p := by first | rfl | (simp [errW_none, errW_some] <;> rfl) | (simp [*, errW_none, errW_some] <;> rfl)) : p := h
theorem z114_2 {p : Prop} (h : p := by repeat (first | (with_reducible first | exact HB.out | apply below_alloc | apply pw_below_drewN | apply below_drew1) | exact HB.out)) : p := h
theorem z114_3 {p : Prop} (h : p := by repeat (first | (with_reducible first | exact HB.out | apply below_alloc | apply pw_below_drewN | apply below_drew1 | refine below_set ?_ GE354.out) | exact HB.out)) : p := h
/-! ### impl_Do_reads: function 114 -/
def impl_Do_reads.f (a0_0 : Int) (a0_1 : Int) (a0_2 : Int) : Option (Bool) := if a0_0 = 2 then (some true) else (some (a0_0 == 5))
set_option maxHeartbeats 8000000 in
set_option maxRecDepth 100000 in
theorem impl_Do_reads.calls (a0_0 : Int) (a0_1 : Int) (a0_2 : Int) (r : Bool) (w : World) (h : impl_Do_reads.f a0_0 a0_1 a0_2 = some r) :
  Calls Try.prog 114 #[.agg #[.int .i64 a0_0, .int .i64 a0_1, .int .i64 a0_2]] w fun e w' => e = .returned (.bool r) ∧ Below w.heap.size w w' := by
 have hu85 := Try.underlying85
 have HB := am_ (Below.refl w.heap.size w)
 have H : (if a0_0 = 2 then (some true) else (some (a0_0 == 5))) = some r := h
 clear h
 by_cases c2 : a0_0 = 2
 ·rw [if_pos c2] at H
  have c2b0 : (a0_0 == 2) = true := beq_iff_eq.mpr c2
  have c2b1 : (a0_0 != 2) = false := bne_eq_false_iff_eq.mpr c2
  clear c2
  obtain rfl := Option.some.inj H
  go_enter Try.func114, Try.ntmps114
  go_wp2_with (first | ((with_reducible refine gate_dst (N := 1) rfl ?_); refine box_event ?hg (N := 1) ?hd (cs := #[.int .i64 a0_0, .int .i64 a0_1, .int .i64 a0_2]) (t := 85) ?hr ?_; (case hd => rfl); (case hg => rfl); (case hr => first | (go_simp; done) | (go_simp; rfl)); intro gb354 hg w3 hbox hb; have n0_ := am_ (below_step z114_2 hb); have n1_ := am_ (hbox); have n2_ := am_ (by rw [hg]; exact (below_size z114_2) : w.heap.size ≤ gb354); have n3_ := am_ (by rw [hg]; exact (below_size z114_2) : w.heap.size ≤ gb354); clear HB; have HB := n0_; have BK354 := n1_; have GW354 := n2_; have GE354 := n3_; clear n0_ n1_ n2_ n3_; clear hb hbox hg; have hcz4_0 : w3.cell? ⟨gb354, 0, none⟩ = some (.int .i64 a0_0) := (blk_cell BK354.out 0).trans rfl; have hcz4_1 : w3.cell? ⟨gb354, 1, none⟩ = some (.int .i64 a0_1) := (blk_cell BK354.out 1).trans rfl; have hcz4_2 : w3.cell? ⟨gb354, 2, none⟩ = some (.int .i64 a0_2) := (blk_cell BK354.out 2).trans rfl; have hfz4_0 := blk_frozen BK354.out 0; have hfz4_1 := blk_frozen BK354.out 1; have hfz4_2 := blk_frozen BK354.out 2))
  go_ret
  exact ⟨z114_1, z114_3⟩
 ·rw [if_neg c2] at H
  have c2b0 : (a0_0 == 2) = false := beq_eq_false_iff_ne.mpr c2
  have c2b1 : (a0_0 != 2) = true := bne_iff_ne.mpr c2
  obtain rfl := Option.some.inj H
  go_enter Try.func114, Try.ntmps114
  go_wp2_with (first | ((with_reducible refine gate_dst (N := 1) rfl ?_); refine box_event ?hg (N := 1) ?hd (cs := #[.int .i64 a0_0, .int .i64 a0_1, .int .i64 a0_2]) (t := 85) ?hr ?_; (case hd => rfl); (case hg => rfl); (case hr => first | (go_simp; done) | (go_simp; rfl)); intro gb354 hg w5 hbox hb; have n0_ := am_ (below_step z114_2 hb); have n1_ := am_ (hbox); have n2_ := am_ (by rw [hg]; exact (below_size z114_2) : w.heap.size ≤ gb354); have n3_ := am_ (by rw [hg]; exact (below_size z114_2) : w.heap.size ≤ gb354); clear HB; have HB := n0_; have BK354 := n1_; have GW354 := n2_; have GE354 := n3_; clear n0_ n1_ n2_ n3_; clear hb hbox hg; have hcz6_0 : w5.cell? ⟨gb354, 0, none⟩ = some (.int .i64 a0_0) := (blk_cell BK354.out 0).trans rfl; have hcz6_1 : w5.cell? ⟨gb354, 1, none⟩ = some (.int .i64 a0_1) := (blk_cell BK354.out 1).trans rfl; have hcz6_2 : w5.cell? ⟨gb354, 2, none⟩ = some (.int .i64 a0_2) := (blk_cell BK354.out 2).trans rfl; have hfz6_0 := blk_frozen BK354.out 0; have hfz6_1 := blk_frozen BK354.out 1; have hfz6_2 := blk_frozen BK354.out 2))
  go_ret
  exact ⟨z114_1, z114_3⟩

end Go.Proofs.Ytefkbmhkhpekjaa.PB

namespace Go.Proofs.Ytefkbmhkhpekjaa.PB
open Go.RowKit Go.Proofs.YtefkbmhkhpekjaaW.PrintWords Go.Proofs.YtefkbmhkhpekjaaW.PrintLast Go.Proofs.YtefkbmhkhpekjaaW.PrintMore
attribute [local go_sem] max2_int min2_int max_two min_two max_three min_three max_four min_four   -- for this text's walks alone
open Go.Proofs.YtefkbmhkhpekjaaMine
set_option linter.unusedVariables false
set_option linter.unusedSimpArgs false

/-! ### impl_in: function 66 -/
def impl_in.f (a0 : Int) (a1 : Int) (a2 : Int) : Option (Bool) := if a0 ≥ a1 then (some (decide (a0 ≤ a2))) else (some false)
set_option maxHeartbeats 8000000 in
set_option maxRecDepth 100000 in
theorem impl_in.calls (a0 : Int) (a1 : Int) (a2 : Int) (r : Bool) (w : World) (h : impl_in.f a0 a1 a2 = some r) :
  Calls Try.prog 66 #[.int .i64 a0, .int .i64 a1, .int .i64 a2] w fun e w' => e = .returned (.bool r) ∧ Drawn0 w w' := by
 have H : (if a0 ≥ a1 then (some (decide (a0 ≤ a2))) else (some false)) = some r := h
 clear h
 by_cases c4 : a0 ≥ a1
 ·rw [if_pos c4] at H
  have c4b0 : decide (a1 ≤ a0) = true := decide_eq_true c4
  clear c4
  obtain rfl := Option.some.inj H
  go_enter Try.func66, Try.ntmps66
  go_wp2
  go_ret
  exact ⟨by first | rfl | (simp; done) | (simp [*]; done), by repeat (first | exact Drawn0.refl _ | apply Drawn0.step)⟩
 ·rw [if_neg c4] at H
  have c4b0 : decide (a1 ≤ a0) = false := decide_eq_false c4
  clear c4
  obtain rfl := Option.some.inj H
  go_enter Try.func66, Try.ntmps66
  go_wp2
  go_ret
  exact ⟨by first | rfl | (simp; done) | (simp [*]; done), by repeat (first | exact Drawn0.refl _ | apply Drawn0.step)⟩

end Go.Proofs.Ytefkbmhkhpekjaa.PB

namespace Go.Proofs.Ytefkbmhkhpekjaa.PB
open Go.RowKit Go.Proofs.YtefkbmhkhpekjaaW.PrintWords Go.Proofs.YtefkbmhkhpekjaaW.PrintLast Go.Proofs.YtefkbmhkhpekjaaW.PrintMore
attribute [local go_sem] max2_int min2_int max_two min_two max_three min_three max_four min_four   -- for this text's walks alone
open Go.Proofs.YtefkbmhkhpekjaaMine
set_option linter.unusedVariables false
set_option linter.unusedSimpArgs false

theorem z115_1 {p : Prop} (h : p := by first | rfl | (simp [errW_none, errW_some] <;> rfl) | (simp [*, errW_none, errW_some] <;> rfl)) : p := h
theorem z115_2 {p : Prop} (h : p := by repeat (first | (with_reducible first | exact HB.out | apply below_alloc | apply pw_below_drewN | apply below_drew1) | exact HB.out)) : p := h
theorem z115_3 {p : Prop} (h : p := by repeat (first | (with_reducible first | exact HB.out | apply below_alloc | apply pw_below_drewN | apply below_drew1 | refine below_set ?_ GE355.out) | exact HB.out)) : p := h
/-! ### impl_Do_writes: function 115 -/
def impl_Do_writes.f (a0_0 : Int) (a0_1 : Int) (a0_2 : Int) : Option (Bool) := if a0_0 = 1 then (some true) else (if a0_0 = 3 then (some true) else (some (a0_0 == 6)))
set_option maxHeartbeats 8000000 in
set_option maxRecDepth 100000 in
theorem impl_Do_writes.calls (a0_0 : Int) (a0_1 : Int) (a0_2 : Int) (r : Bool) (w : World) (h : impl_Do_writes.f a0_0 a0_1 a0_2 = some r) :
  Calls Try.prog 115 #[.agg #[.int .i64 a0_0, .int .i64 a0_1, .int .i64 a0_2]] w fun e w' => e = .returned (.bool r) ∧ Below w.heap.size w w' := by
 have hu85 := Try.underlying85
 have HB := am_ (Below.refl w.heap.size w)
 have H : (if a0_0 = 1 then (some true) else (if a0_0 = 3 then (some true) else (some (a0_0 == 6)))) = some r := h
 clear h
 by_cases c2 : a0_0 = 1
 ·rw [if_pos c2] at H
  have c2b0 : (a0_0 == 1) = true := beq_iff_eq.mpr c2
  have c2b1 : (a0_0 != 1) = false := bne_eq_false_iff_eq.mpr c2
  clear c2
  obtain rfl := Option.some.inj H
  go_enter Try.func115, Try.ntmps115
  go_wp2_with (first | ((with_reducible refine gate_dst (N := 1) rfl ?_); refine box_event ?hg (N := 1) ?hd (cs := #[.int .i64 a0_0, .int .i64 a0_1, .int .i64 a0_2]) (t := 85) ?hr ?_; (case hd => rfl); (case hg => rfl); (case hr => first | (go_simp; done) | (go_simp; rfl)); intro gb355 hg w3 hbox hb; have n0_ := am_ (below_step z115_2 hb); have n1_ := am_ (hbox); have n2_ := am_ (by rw [hg]; exact (below_size z115_2) : w.heap.size ≤ gb355); have n3_ := am_ (by rw [hg]; exact (below_size z115_2) : w.heap.size ≤ gb355); clear HB; have HB := n0_; have BK355 := n1_; have GW355 := n2_; have GE355 := n3_; clear n0_ n1_ n2_ n3_; clear hb hbox hg; have hcz4_0 : w3.cell? ⟨gb355, 0, none⟩ = some (.int .i64 a0_0) := (blk_cell BK355.out 0).trans rfl; have hcz4_1 : w3.cell? ⟨gb355, 1, none⟩ = some (.int .i64 a0_1) := (blk_cell BK355.out 1).trans rfl; have hcz4_2 : w3.cell? ⟨gb355, 2, none⟩ = some (.int .i64 a0_2) := (blk_cell BK355.out 2).trans rfl; have hfz4_0 := blk_frozen BK355.out 0; have hfz4_1 := blk_frozen BK355.out 1; have hfz4_2 := blk_frozen BK355.out 2))
  go_ret
  exact ⟨z115_1, z115_3⟩
 ·rw [if_neg c2] at H
  have c2b0 : (a0_0 == 1) = false := beq_eq_false_iff_ne.mpr c2
  have c2b1 : (a0_0 != 1) = true := bne_iff_ne.mpr c2
  by_cases c5 : a0_0 = 3
  ·rw [if_pos c5] at H
   have c5b0 : (a0_0 == 3) = true := beq_iff_eq.mpr c5
   have c5b1 : (a0_0 != 3) = false := bne_eq_false_iff_eq.mpr c5
   clear c5
   obtain rfl := Option.some.inj H
   go_enter Try.func115, Try.ntmps115
   go_wp2_with (first | ((with_reducible refine gate_dst (N := 1) rfl ?_); refine box_event ?hg (N := 1) ?hd (cs := #[.int .i64 a0_0, .int .i64 a0_1, .int .i64 a0_2]) (t := 85) ?hr ?_; (case hd => rfl); (case hg => rfl); (case hr => first | (go_simp; done) | (go_simp; rfl)); intro gb355 hg w6 hbox hb; have n0_ := am_ (below_step z115_2 hb); have n1_ := am_ (hbox); have n2_ := am_ (by rw [hg]; exact (below_size z115_2) : w.heap.size ≤ gb355); have n3_ := am_ (by rw [hg]; exact (below_size z115_2) : w.heap.size ≤ gb355); clear HB; have HB := n0_; have BK355 := n1_; have GW355 := n2_; have GE355 := n3_; clear n0_ n1_ n2_ n3_; clear hb hbox hg; have hcz7_0 : w6.cell? ⟨gb355, 0, none⟩ = some (.int .i64 a0_0) := (blk_cell BK355.out 0).trans rfl; have hcz7_1 : w6.cell? ⟨gb355, 1, none⟩ = some (.int .i64 a0_1) := (blk_cell BK355.out 1).trans rfl; have hcz7_2 : w6.cell? ⟨gb355, 2, none⟩ = some (.int .i64 a0_2) := (blk_cell BK355.out 2).trans rfl; have hfz7_0 := blk_frozen BK355.out 0; have hfz7_1 := blk_frozen BK355.out 1; have hfz7_2 := blk_frozen BK355.out 2))
   go_ret
   exact ⟨z115_1, z115_3⟩
  ·rw [if_neg c5] at H
   have c5b0 : (a0_0 == 3) = false := beq_eq_false_iff_ne.mpr c5
   have c5b1 : (a0_0 != 3) = true := bne_iff_ne.mpr c5
   obtain rfl := Option.some.inj H
   go_enter Try.func115, Try.ntmps115
   go_wp2_with (first | ((with_reducible refine gate_dst (N := 1) rfl ?_); refine box_event ?hg (N := 1) ?hd (cs := #[.int .i64 a0_0, .int .i64 a0_1, .int .i64 a0_2]) (t := 85) ?hr ?_; (case hd => rfl); (case hg => rfl); (case hr => first | (go_simp; done) | (go_simp; rfl)); intro gb355 hg w8 hbox hb; have n0_ := am_ (below_step z115_2 hb); have n1_ := am_ (hbox); have n2_ := am_ (by rw [hg]; exact (below_size z115_2) : w.heap.size ≤ gb355); have n3_ := am_ (by rw [hg]; exact (below_size z115_2) : w.heap.size ≤ gb355); clear HB; have HB := n0_; have BK355 := n1_; have GW355 := n2_; have GE355 := n3_; clear n0_ n1_ n2_ n3_; clear hb hbox hg; have hcz9_0 : w8.cell? ⟨gb355, 0, none⟩ = some (.int .i64 a0_0) := (blk_cell BK355.out 0).trans rfl; have hcz9_1 : w8.cell? ⟨gb355, 1, none⟩ = some (.int .i64 a0_1) := (blk_cell BK355.out 1).trans rfl; have hcz9_2 : w8.cell? ⟨gb355, 2, none⟩ = some (.int .i64 a0_2) := (blk_cell BK355.out 2).trans rfl; have hfz9_0 := blk_frozen BK355.out 0; have hfz9_1 := blk_frozen BK355.out 1; have hfz9_2 := blk_frozen BK355.out 2))
   go_ret
   exact ⟨z115_1, z115_3⟩

end Go.Proofs.Ytefkbmhkhpekjaa.PB

namespace Go.Proofs.Ytefkbmhkhpekjaa.PB
open Go.RowKit Go.Proofs.YtefkbmhkhpekjaaW.PrintWords Go.Proofs.YtefkbmhkhpekjaaW.PrintLast Go.Proofs.YtefkbmhkhpekjaaW.PrintMore
attribute [local go_sem] max2_int min2_int max_two min_two max_three min_three max_four min_four   -- for this text's walks alone
open Go.Proofs.YtefkbmhkhpekjaaMine
set_option linter.unusedVariables false
set_option linter.unusedSimpArgs false

theorem z78_1 {p : Prop} (h : p := by first | rfl | (simp [errW_none, errW_some] <;> rfl) | (simp [*, errW_none, errW_some] <;> rfl)) : p := h
theorem z78_2 {p : Prop} (h : p := by repeat (first | (with_reducible first | exact HB.out | apply below_alloc | apply pw_below_drewN | apply below_drew1) | exact HB.out)) : p := h
theorem z78_3 {p : Prop} (h : p := by repeat (first | (with_reducible first | exact HB.out | apply below_alloc | apply pw_below_drewN | apply below_drew1 | refine below_set ?_ GE356.out) | exact HB.out)) : p := h
/-! ### impl_Do_uses: function 78 -/
def impl_Do_uses.f (a0_0 : Int) (a0_1 : Int) (a0_2 : Int) : Option (Bool) := (impl_Do_reads.f a0_0 a0_1 a0_2).bind fun t357 => (if t357 = true then (some true) else ((impl_Do_writes.f a0_0 a0_1 a0_2).bind fun t358 => (some t358)))
set_option maxHeartbeats 8000000 in
set_option maxRecDepth 100000 in
theorem impl_Do_uses.calls (a0_0 : Int) (a0_1 : Int) (a0_2 : Int) (r : Bool) (w : World) (h : impl_Do_uses.f a0_0 a0_1 a0_2 = some r) :
  Calls Try.prog 78 #[.agg #[.int .i64 a0_0, .int .i64 a0_1, .int .i64 a0_2]] w fun e w' => e = .returned (.bool r) ∧ Below w.heap.size w w' := by
 have hu85 := Try.underlying85
 have HB := am_ (Below.refl w.heap.size w)
 have H : ((impl_Do_reads.f a0_0 a0_1 a0_2).bind fun t357 => (if t357 = true then (some true) else ((impl_Do_writes.f a0_0 a0_1 a0_2).bind fun t358 => (some t358)))) = some r := h
 clear h
 replace H := Option.bind_eq_some_iff.mp H
 obtain ⟨t357, A20, H⟩ := H
 replace H : (if t357 = true then (some true) else ((impl_Do_writes.f a0_0 a0_1 a0_2).bind fun t358 => (some t358))) = some r := H
 have A2 := am_ A20
 clear A20
 by_cases c3 : t357 = true
 ·subst c3
  have H1 : (some true) = some r := by rw [if_pos rfl] at H; exact H
  clear H
  have H := H1
  clear H1
  obtain rfl := Option.some.inj H
  go_enter Try.func78, Try.ntmps78
  go_wp2_with (first | ((with_reducible refine gate_dst (N := 1) rfl ?_); refine box_event ?hg (N := 1) ?hd (cs := #[.int .i64 a0_0, .int .i64 a0_1, .int .i64 a0_2]) (t := 85) ?hr ?_; (case hd => rfl); (case hg => rfl); (case hr => first | (go_simp; done) | (go_simp; rfl)); intro gb356 hg w4 hbox hb; have n0_ := am_ (below_step z78_2 hb); have n1_ := am_ (hbox); have n2_ := am_ (by rw [hg]; exact (below_size z78_2) : w.heap.size ≤ gb356); have n3_ := am_ (by rw [hg]; exact (below_size z78_2) : w.heap.size ≤ gb356); clear HB; have HB := n0_; have BK356 := n1_; have GW356 := n2_; have GE356 := n3_; clear n0_ n1_ n2_ n3_; clear hb hbox hg; have hcz5_0 : w4.cell? ⟨gb356, 0, none⟩ = some (.int .i64 a0_0) := (blk_cell BK356.out 0).trans rfl; have hcz5_1 : w4.cell? ⟨gb356, 1, none⟩ = some (.int .i64 a0_1) := (blk_cell BK356.out 1).trans rfl; have hcz5_2 : w4.cell? ⟨gb356, 2, none⟩ = some (.int .i64 a0_2) := (blk_cell BK356.out 2).trans rfl; have hfz5_0 := blk_frozen BK356.out 0; have hfz5_1 := blk_frozen BK356.out 1; have hfz5_2 := blk_frozen BK356.out 2) | ((with_reducible refine gate_callee (f := 114) rfl ?_); refine goesL_ (some 4) rfl rfl Try.func114 (by kernel_rfl) rfl #[.agg #[.int .i64 a0_0, .int .i64 a0_1, .int .i64 a0_2]] rfl (by (try simp only [List.map_toArray, List.map_cons, List.map_nil]); first | done | rfl | (simp only [List.length_drop, List.length_take]; rfl)) ?_; (with_reducible refine (impl_Do_reads.calls a0_0 a0_1 a0_2 true _ A2.out).mono ?_); rintro e w6 ⟨rfl, hb⟩; refine ⟨_, rfl, ?_⟩; have n0_ := am_ (blk_below (bu BK356.out) hb); have n1_ := am_ (below_step z78_3 hb); clear BK356 HB; have BK356 := n0_; have HB := n1_; clear n0_ n1_; (try clear hb); (try clear hb2); (try clear hk); (try clear hi)))
  go_ret
  exact ⟨z78_1, z78_3⟩
 ·replace c3 := Bool.eq_false_iff.mpr c3
  subst c3
  have H1 : ((impl_Do_writes.f a0_0 a0_1 a0_2).bind fun t358 => (some t358)) = some r := by rw [if_neg (show ¬ (false = true) by decide)] at H; exact H
  clear H
  have H := H1
  clear H1
  replace H := Option.bind_eq_some_iff.mp H
  obtain ⟨t358, A70, H⟩ := H
  replace H : (some t358) = some r := H
  have A7 := am_ A70
  clear A70
  obtain rfl := Option.some.inj H
  go_enter Try.func78, Try.ntmps78
  go_wp2_with (first | ((with_reducible refine gate_dst (N := 1) rfl ?_); refine box_event ?hg (N := 1) ?hd (cs := #[.int .i64 a0_0, .int .i64 a0_1, .int .i64 a0_2]) (t := 85) ?hr ?_; (case hd => rfl); (case hg => rfl); (case hr => first | (go_simp; done) | (go_simp; rfl)); intro gb356 hg w8 hbox hb; have n0_ := am_ (below_step z78_2 hb); have n1_ := am_ (hbox); have n2_ := am_ (by rw [hg]; exact (below_size z78_2) : w.heap.size ≤ gb356); have n3_ := am_ (by rw [hg]; exact (below_size z78_2) : w.heap.size ≤ gb356); clear HB; have HB := n0_; have BK356 := n1_; have GW356 := n2_; have GE356 := n3_; clear n0_ n1_ n2_ n3_; clear hb hbox hg; have hcz9_0 : w8.cell? ⟨gb356, 0, none⟩ = some (.int .i64 a0_0) := (blk_cell BK356.out 0).trans rfl; have hcz9_1 : w8.cell? ⟨gb356, 1, none⟩ = some (.int .i64 a0_1) := (blk_cell BK356.out 1).trans rfl; have hcz9_2 : w8.cell? ⟨gb356, 2, none⟩ = some (.int .i64 a0_2) := (blk_cell BK356.out 2).trans rfl; have hfz9_0 := blk_frozen BK356.out 0; have hfz9_1 := blk_frozen BK356.out 1; have hfz9_2 := blk_frozen BK356.out 2) | ((with_reducible refine gate_callee (f := 114) rfl ?_); refine goesL_ (some 4) rfl rfl Try.func114 (by kernel_rfl) rfl #[.agg #[.int .i64 a0_0, .int .i64 a0_1, .int .i64 a0_2]] rfl (by (try simp only [List.map_toArray, List.map_cons, List.map_nil]); first | done | rfl | (simp only [List.length_drop, List.length_take]; rfl)) ?_; (with_reducible refine (impl_Do_reads.calls a0_0 a0_1 a0_2 false _ A2.out).mono ?_); rintro e w10 ⟨rfl, hb⟩; refine ⟨_, rfl, ?_⟩; have n0_ := am_ (blk_below (bu BK356.out) hb); have n1_ := am_ (below_step z78_3 hb); clear BK356 HB; have BK356 := n0_; have HB := n1_; clear n0_ n1_; (try clear hb); (try clear hb2); (try clear hk); (try clear hi); have hcz11_0 : w10.cell? ⟨gb356, 0, none⟩ = some (.int .i64 a0_0) := (blk_cell BK356.out 0).trans rfl; have hcz11_1 : w10.cell? ⟨gb356, 1, none⟩ = some (.int .i64 a0_1) := (blk_cell BK356.out 1).trans rfl; have hcz11_2 : w10.cell? ⟨gb356, 2, none⟩ = some (.int .i64 a0_2) := (blk_cell BK356.out 2).trans rfl; have hfz11_0 := blk_frozen BK356.out 0; have hfz11_1 := blk_frozen BK356.out 1; have hfz11_2 := blk_frozen BK356.out 2) | (go_at_call 115; (with_reducible refine (impl_Do_writes.calls a0_0 a0_1 a0_2 t358 _ A7.out).mono ?_); rintro e w12 ⟨rfl, hb⟩; have n0_ := am_ (blk_below (bu BK356.out) hb); have n1_ := am_ (below_step z78_3 hb); clear BK356 HB; have BK356 := n0_; have HB := n1_; clear n0_ n1_; (try clear hb); (try clear hb2); (try clear hk); (try clear hi)))
  go_ret
  exact ⟨z78_1, z78_3⟩

end Go.Proofs.Ytefkbmhkhpekjaa.PB

namespace Go.Proofs.Ytefkbmhkhpekjaa.PB
open Go.RowKit Go.Proofs.YtefkbmhkhpekjaaW.PrintWords Go.Proofs.YtefkbmhkhpekjaaW.PrintLast Go.Proofs.YtefkbmhkhpekjaaW.PrintMore
attribute [local go_sem] max2_int min2_int max_two min_two max_three min_three max_four min_four   -- for this text's walks alone
open Go.Proofs.YtefkbmhkhpekjaaMine
set_option linter.unusedVariables false
set_option linter.unusedSimpArgs false

theorem z131_1 {p : Prop} (h : p := by first | rfl | (simp [errW_none, errW_some] <;> rfl) | (simp [*, errW_none, errW_some] <;> rfl)) : p := h
theorem z131_2 {p : Prop} (h : p := by repeat (first | (with_reducible first | exact HB.out | apply below_alloc | apply pw_below_drewN | apply below_drew1) | exact HB.out)) : p := h
theorem z131_3 {p : Prop} (h : p := by repeat (first | (with_reducible first | exact HB.out | apply below_alloc | apply pw_below_drewN | apply below_drew1 | refine below_set ?_ GE359.out) | exact HB.out)) : p := h
/-! ### impl_Do_valued: function 131 -/
def impl_Do_valued.f (a0_0 : Int) (a0_1 : Int) (a0_2 : Int) : Option (Bool) := if a0_0 = 1 then (some true) else (some (a0_0 == 6))
set_option maxHeartbeats 8000000 in
set_option maxRecDepth 100000 in
theorem impl_Do_valued.calls (a0_0 : Int) (a0_1 : Int) (a0_2 : Int) (r : Bool) (w : World) (h : impl_Do_valued.f a0_0 a0_1 a0_2 = some r) :
  Calls Try.prog 131 #[.agg #[.int .i64 a0_0, .int .i64 a0_1, .int .i64 a0_2]] w fun e w' => e = .returned (.bool r) ∧ Below w.heap.size w w' := by
 have hu85 := Try.underlying85
 have HB := am_ (Below.refl w.heap.size w)
 have H : (if a0_0 = 1 then (some true) else (some (a0_0 == 6))) = some r := h
 clear h
 by_cases c2 : a0_0 = 1
 ·rw [if_pos c2] at H
  have c2b0 : (a0_0 == 1) = true := beq_iff_eq.mpr c2
  have c2b1 : (a0_0 != 1) = false := bne_eq_false_iff_eq.mpr c2
  clear c2
  obtain rfl := Option.some.inj H
  go_enter Try.func131, Try.ntmps131
  go_wp2_with (first | ((with_reducible refine gate_dst (N := 1) rfl ?_); refine box_event ?hg (N := 1) ?hd (cs := #[.int .i64 a0_0, .int .i64 a0_1, .int .i64 a0_2]) (t := 85) ?hr ?_; (case hd => rfl); (case hg => rfl); (case hr => first | (go_simp; done) | (go_simp; rfl)); intro gb359 hg w3 hbox hb; have n0_ := am_ (below_step z131_2 hb); have n1_ := am_ (hbox); have n2_ := am_ (by rw [hg]; exact (below_size z131_2) : w.heap.size ≤ gb359); have n3_ := am_ (by rw [hg]; exact (below_size z131_2) : w.heap.size ≤ gb359); clear HB; have HB := n0_; have BK359 := n1_; have GW359 := n2_; have GE359 := n3_; clear n0_ n1_ n2_ n3_; clear hb hbox hg; have hcz4_0 : w3.cell? ⟨gb359, 0, none⟩ = some (.int .i64 a0_0) := (blk_cell BK359.out 0).trans rfl; have hcz4_1 : w3.cell? ⟨gb359, 1, none⟩ = some (.int .i64 a0_1) := (blk_cell BK359.out 1).trans rfl; have hcz4_2 : w3.cell? ⟨gb359, 2, none⟩ = some (.int .i64 a0_2) := (blk_cell BK359.out 2).trans rfl; have hfz4_0 := blk_frozen BK359.out 0; have hfz4_1 := blk_frozen BK359.out 1; have hfz4_2 := blk_frozen BK359.out 2))
  go_ret
  exact ⟨z131_1, z131_3⟩
 ·rw [if_neg c2] at H
  have c2b0 : (a0_0 == 1) = false := beq_eq_false_iff_ne.mpr c2
  have c2b1 : (a0_0 != 1) = true := bne_iff_ne.mpr c2
  obtain rfl := Option.some.inj H
  go_enter Try.func131, Try.ntmps131
  go_wp2_with (first | ((with_reducible refine gate_dst (N := 1) rfl ?_); refine box_event ?hg (N := 1) ?hd (cs := #[.int .i64 a0_0, .int .i64 a0_1, .int .i64 a0_2]) (t := 85) ?hr ?_; (case hd => rfl); (case hg => rfl); (case hr => first | (go_simp; done) | (go_simp; rfl)); intro gb359 hg w5 hbox hb; have n0_ := am_ (below_step z131_2 hb); have n1_ := am_ (hbox); have n2_ := am_ (by rw [hg]; exact (below_size z131_2) : w.heap.size ≤ gb359); have n3_ := am_ (by rw [hg]; exact (below_size z131_2) : w.heap.size ≤ gb359); clear HB; have HB := n0_; have BK359 := n1_; have GW359 := n2_; have GE359 := n3_; clear n0_ n1_ n2_ n3_; clear hb hbox hg; have hcz6_0 : w5.cell? ⟨gb359, 0, none⟩ = some (.int .i64 a0_0) := (blk_cell BK359.out 0).trans rfl; have hcz6_1 : w5.cell? ⟨gb359, 1, none⟩ = some (.int .i64 a0_1) := (blk_cell BK359.out 1).trans rfl; have hcz6_2 : w5.cell? ⟨gb359, 2, none⟩ = some (.int .i64 a0_2) := (blk_cell BK359.out 2).trans rfl; have hfz6_0 := blk_frozen BK359.out 0; have hfz6_1 := blk_frozen BK359.out 1; have hfz6_2 := blk_frozen BK359.out 2))
  go_ret
  exact ⟨z131_1, z131_3⟩

end Go.Proofs.Ytefkbmhkhpekjaa.PB

namespace Go.Proofs.Ytefkbmhkhpekjaa.PB
open Go.RowKit Go.Proofs.YtefkbmhkhpekjaaW.PrintWords Go.Proofs.YtefkbmhkhpekjaaW.PrintLast Go.Proofs.YtefkbmhkhpekjaaW.PrintMore
attribute [local go_sem] max2_int min2_int max_two min_two max_three min_three max_four min_four   -- for this text's walks alone
open Go.Proofs.YtefkbmhkhpekjaaMine
set_option linter.unusedVariables false
set_option linter.unusedSimpArgs false

theorem z116_1 {p : Prop} (h : p := by first | rfl | (simp; done) | (simp [*]; done)) : p := h
theorem z116_2 {p : Prop} (h : p := by first | rfl | (simp [errW_none, errW_some] <;> rfl) | (simp [*, errW_none, errW_some] <;> rfl)) : p := h
theorem z116_3 {p : Prop} (h : p := by repeat (first | (with_reducible first | exact HB.out | apply below_alloc | apply pw_below_drewN | apply below_drew1) | exact HB.out)) : p := h
theorem z116_4 {p : Prop} (h : p := by repeat (first | (with_reducible first | exact HB.out | apply below_alloc | apply pw_below_drewN | apply below_drew1 | refine below_set ?_ GE360.out) | exact HB.out)) : p := h
/-! ### impl_Do_formed: function 116 -/
def impl_Do_formed.j0 : Nat → Bool → Int → Int → Int → Option (Bool)
  | 0, _, _, _, _ => none
  | k + 1, x3, x361000, x361001, x361002 => (impl_Do_valued.f x361000 x361001 x361002).bind fun t363 => (if t363 = true then ((impl_in.f x361002 1 3).bind fun t364 => ((impl_in.f x361000 1 9).bind fun t365 => (if t365 = true then (if x3 = true then (some t364) else (some false)) else (some false)))) else ((impl_in.f x361000 1 9).bind fun t366 => (if t366 = true then (if x3 = true then (some (x361002 == 0)) else (some false)) else (some false))))
def impl_Do_formed.f (k : Nat) (a0_0 : Int) (a0_1 : Int) (a0_2 : Int) : Option (Bool) := if a0_1 = 0 then (impl_Do_formed.j0 k true a0_0 a0_1 a0_2) else ((impl_Do_uses.f a0_0 a0_1 a0_2).bind fun t361 => (if t361 = true then ((impl_in.f a0_1 0 2).bind fun t362 => (impl_Do_formed.j0 k t362 a0_0 a0_1 a0_2)) else (impl_Do_formed.j0 k false a0_0 a0_1 a0_2)))
set_option maxHeartbeats 8000000 in
set_option maxRecDepth 100000 in
theorem impl_Do_formed.calls (k : Nat) (a0_0 : Int) (a0_1 : Int) (a0_2 : Int) (r : Bool) (w : World) (h : impl_Do_formed.f k a0_0 a0_1 a0_2 = some r) :
  Calls Try.prog 116 #[.agg #[.int .i64 a0_0, .int .i64 a0_1, .int .i64 a0_2]] w fun e w' => e = .returned (.bool r) ∧ Below w.heap.size w w' := by
 have hu85 := Try.underlying85
 have HB := am_ (Below.refl w.heap.size w)
 have H : (if a0_1 = 0 then (impl_Do_formed.j0 k true a0_0 a0_1 a0_2) else ((impl_Do_uses.f a0_0 a0_1 a0_2).bind fun t361 => (if t361 = true then ((impl_in.f a0_1 0 2).bind fun t362 => (impl_Do_formed.j0 k t362 a0_0 a0_1 a0_2)) else (impl_Do_formed.j0 k false a0_0 a0_1 a0_2)))) = some r := h
 clear h
 have HC2 := am_ H
 clear H
 go_enter Try.func116, Try.ntmps116
 go_upto_region 1 with (first | ((with_reducible refine gate_dst (N := 1) rfl ?_); refine box_event ?hg (N := 1) ?hd (cs := #[.int .i64 a0_0, .int .i64 a0_1, .int .i64 a0_2]) (t := 85) ?hr ?_; (case hd => rfl); (case hg => rfl); (case hr => first | (go_simp; done) | (go_simp; rfl)); intro gb360 hg w3 hbox hb; have n0_ := am_ (below_step z116_3 hb); have n1_ := am_ (hbox); have n2_ := am_ (by rw [hg]; exact (below_size z116_3) : w.heap.size ≤ gb360); have n3_ := am_ (by rw [hg]; exact (below_size z116_3) : w.heap.size ≤ gb360); clear HB; have HB := n0_; have BK360 := n1_; have GW360 := n2_; have GE360 := n3_; clear n0_ n1_ n2_ n3_; clear hb hbox hg))
 (try simp only [Act.put, List.setIfInBounds_toArray, List.set_cons_zero, List.set_cons_succ])
 go_cut [3] (fun v3 wc => ∃ (kq : Nat) (x3_1 : Bool), v3 = .bool x3_1 ∧ Aside0 (impl_Do_formed.j0 kq x3_1 a0_0 a0_1 a0_2 = some r) ∧ Aside0 (kq ≤ k) ∧ Aside0 (wc.heap[gb360]? = some (.cells #[.int .i64 a0_0, .int .i64 a0_1, .int .i64 a0_2] 85 (0, 0))) ∧ Aside0 (Below w.heap.size w wc))
 case first =>
  have H := HC2.out
  clear HC2
  by_cases c4 : a0_1 = 0
  ·rw [if_pos c4] at H
   have c4b0 : (a0_1 == 0) = true := beq_iff_eq.mpr c4
   have c4b1 : (a0_1 != 0) = false := bne_eq_false_iff_eq.mpr c4
   clear c4
   (first | rw [c4b0] | (simp only [i64_w, i32_w]; rw [c4b0]) | skip)
   have H' := am_ H
   clear H
   have hcz5_0 : w3.cell? ⟨gb360, 0, none⟩ = some (.int .i64 a0_0) := (blk_cell BK360.out 0).trans rfl
   have hcz5_1 : w3.cell? ⟨gb360, 1, none⟩ = some (.int .i64 a0_1) := (blk_cell BK360.out 1).trans rfl
   have hcz5_2 : w3.cell? ⟨gb360, 2, none⟩ = some (.int .i64 a0_2) := (blk_cell BK360.out 2).trans rfl
   have hfz5_0 := blk_frozen BK360.out 0
   have hfz5_1 := blk_frozen BK360.out 1
   have hfz5_2 := blk_frozen BK360.out 2
   go_wp2
   go_meet
   case rel => exact ⟨_, (true), z116_1, H', ⟨by first | omega | exact Nat.le_refl _⟩, ⟨bu BK360.out⟩, ⟨z116_4⟩⟩
  ·rw [if_neg c4] at H
   have c4b0 : (a0_1 == 0) = false := beq_eq_false_iff_ne.mpr c4
   have c4b1 : (a0_1 != 0) = true := bne_iff_ne.mpr c4
   (first | rw [c4b0] | (simp only [i64_w, i32_w]; rw [c4b0]) | skip)
   replace H := Option.bind_eq_some_iff.mp H
   obtain ⟨t361, A60, H⟩ := H
   replace H : (if t361 = true then ((impl_in.f a0_1 0 2).bind fun t362 => (impl_Do_formed.j0 k t362 a0_0 a0_1 a0_2)) else (impl_Do_formed.j0 k false a0_0 a0_1 a0_2)) = some r := H
   have A6 := am_ A60
   clear A60
   by_cases c7 : t361 = true
   ·subst c7
    have H1 : ((impl_in.f a0_1 0 2).bind fun t362 => (impl_Do_formed.j0 k t362 a0_0 a0_1 a0_2)) = some r := by rw [if_pos rfl] at H; exact H
    clear H
    have H := H1
    clear H1
    replace H := Option.bind_eq_some_iff.mp H
    obtain ⟨t362, A80, H⟩ := H
    replace H : (impl_Do_formed.j0 k t362 a0_0 a0_1 a0_2) = some r := H
    have A8 := am_ A80
    clear A80
    have H' := am_ H
    clear H
    have hcz9_0 : w3.cell? ⟨gb360, 0, none⟩ = some (.int .i64 a0_0) := (blk_cell BK360.out 0).trans rfl
    have hcz9_1 : w3.cell? ⟨gb360, 1, none⟩ = some (.int .i64 a0_1) := (blk_cell BK360.out 1).trans rfl
    have hcz9_2 : w3.cell? ⟨gb360, 2, none⟩ = some (.int .i64 a0_2) := (blk_cell BK360.out 2).trans rfl
    have hfz9_0 := blk_frozen BK360.out 0
    have hfz9_1 := blk_frozen BK360.out 1
    have hfz9_2 := blk_frozen BK360.out 2
    go_wp2_with (first | (go_at_call 78; (with_reducible refine (impl_Do_uses.calls a0_0 a0_1 a0_2 true _ A6.out).mono ?_); rintro e w10 ⟨rfl, hb⟩; have n0_ := am_ (blk_below (bu BK360.out) hb); have n1_ := am_ (below_step z116_4 hb); clear BK360 HB; have BK360 := n0_; have HB := n1_; clear n0_ n1_; (try clear hb); (try clear hb2); (try clear hk); (try clear hi); have hcz11_0 : w10.cell? ⟨gb360, 0, none⟩ = some (.int .i64 a0_0) := (blk_cell BK360.out 0).trans rfl; have hcz11_1 : w10.cell? ⟨gb360, 1, none⟩ = some (.int .i64 a0_1) := (blk_cell BK360.out 1).trans rfl; have hcz11_2 : w10.cell? ⟨gb360, 2, none⟩ = some (.int .i64 a0_2) := (blk_cell BK360.out 2).trans rfl; have hfz11_0 := blk_frozen BK360.out 0; have hfz11_1 := blk_frozen BK360.out 1; have hfz11_2 := blk_frozen BK360.out 2) | (go_at_call 66; (with_reducible refine (impl_in.calls a0_1 0 2 t362 _ A8.out).mono ?_); rintro e w' ⟨rfl, ⟨nd, rfl⟩⟩))
    go_meet
    case rel => exact ⟨_, (t362), z116_1, H', ⟨by first | omega | exact Nat.le_refl _⟩, ⟨bu BK360.out⟩, ⟨z116_4⟩⟩
   ·replace c7 := Bool.eq_false_iff.mpr c7
    subst c7
    have H1 : (impl_Do_formed.j0 k false a0_0 a0_1 a0_2) = some r := by rw [if_neg (show ¬ (false = true) by decide)] at H; exact H
    clear H
    have H := H1
    clear H1
    have H' := am_ H
    clear H
    have hcz12_0 : w3.cell? ⟨gb360, 0, none⟩ = some (.int .i64 a0_0) := (blk_cell BK360.out 0).trans rfl
    have hcz12_1 : w3.cell? ⟨gb360, 1, none⟩ = some (.int .i64 a0_1) := (blk_cell BK360.out 1).trans rfl
    have hcz12_2 : w3.cell? ⟨gb360, 2, none⟩ = some (.int .i64 a0_2) := (blk_cell BK360.out 2).trans rfl
    have hfz12_0 := blk_frozen BK360.out 0
    have hfz12_1 := blk_frozen BK360.out 1
    have hfz12_2 := blk_frozen BK360.out 2
    go_wp2_with (first | (go_at_call 78; (with_reducible refine (impl_Do_uses.calls a0_0 a0_1 a0_2 false _ A6.out).mono ?_); rintro e w13 ⟨rfl, hb⟩; have n0_ := am_ (blk_below (bu BK360.out) hb); have n1_ := am_ (below_step z116_4 hb); clear BK360 HB; have BK360 := n0_; have HB := n1_; clear n0_ n1_; (try clear hb); (try clear hb2); (try clear hk); (try clear hi)))
    go_meet
    case rel => exact ⟨_, (false), z116_1, H', ⟨by first | omega | exact Nat.le_refl _⟩, ⟨bu BK360.out⟩, ⟨z116_4⟩⟩
 case rest =>
  clear HC2
  obtain ⟨kq, x3_1, rfl, HA, HJ1, BK360, HB⟩ := hcut
  cases kq with
  | zero => exact absurd HA.out (by simp [impl_Do_formed.j0])
  | succ kj1 =>
   have H := HA.out
   clear HA
   simp only [impl_Do_formed.j0] at H
   replace H := Option.bind_eq_some_iff.mp H
   obtain ⟨t363, A140, H⟩ := H
   replace H : (if t363 = true then ((impl_in.f a0_2 1 3).bind fun t364 => ((impl_in.f a0_0 1 9).bind fun t365 => (if t365 = true then (if x3_1 = true then (some t364) else (some false)) else (some false)))) else ((impl_in.f a0_0 1 9).bind fun t366 => (if t366 = true then (if x3_1 = true then (some (a0_2 == 0)) else (some false)) else (some false)))) = some r := H
   have A14 := am_ A140
   clear A140
   by_cases c15 : t363 = true
   ·subst c15
    have H1 : ((impl_in.f a0_2 1 3).bind fun t364 => ((impl_in.f a0_0 1 9).bind fun t365 => (if t365 = true then (if x3_1 = true then (some t364) else (some false)) else (some false)))) = some r := by rw [if_pos rfl] at H; exact H
    clear H
    have H := H1
    clear H1
    replace H := Option.bind_eq_some_iff.mp H
    obtain ⟨t364, A160, H⟩ := H
    replace H : ((impl_in.f a0_0 1 9).bind fun t365 => (if t365 = true then (if x3_1 = true then (some t364) else (some false)) else (some false))) = some r := H
    have A16 := am_ A160
    clear A160
    replace H := Option.bind_eq_some_iff.mp H
    obtain ⟨t365, A170, H⟩ := H
    replace H : (if t365 = true then (if x3_1 = true then (some t364) else (some false)) else (some false)) = some r := H
    have A17 := am_ A170
    clear A170
    by_cases c18 : t365 = true
    ·subst c18
     have H1 : (if x3_1 = true then (some t364) else (some false)) = some r := by rw [if_pos rfl] at H; exact H
     clear H
     have H := H1
     clear H1
     by_cases c19 : x3_1 = true
     ·subst c19
      have H1 : (some t364) = some r := by rw [if_pos rfl] at H; exact H
      clear H
      have H := H1
      clear H1
      obtain rfl := Option.some.inj H
      have hcz20_0 : wc.cell? ⟨gb360, 0, none⟩ = some (.int .i64 a0_0) := (blk_cell BK360.out 0).trans rfl
      have hcz20_1 : wc.cell? ⟨gb360, 1, none⟩ = some (.int .i64 a0_1) := (blk_cell BK360.out 1).trans rfl
      have hcz20_2 : wc.cell? ⟨gb360, 2, none⟩ = some (.int .i64 a0_2) := (blk_cell BK360.out 2).trans rfl
      have hfz20_0 := blk_frozen BK360.out 0
      have hfz20_1 := blk_frozen BK360.out 1
      have hfz20_2 := blk_frozen BK360.out 2
      go_wp2_with (first | ((with_reducible refine gate_callee (f := 131) rfl ?_); refine goesL_ (some 21) rfl rfl Try.func131 (by kernel_rfl) rfl #[.agg #[.int .i64 a0_0, .int .i64 a0_1, .int .i64 a0_2]] rfl (by (try simp only [List.map_toArray, List.map_cons, List.map_nil]); first | done | rfl | (simp only [List.length_drop, List.length_take]; rfl)) ?_; (with_reducible refine (impl_Do_valued.calls a0_0 a0_1 a0_2 true _ A14.out).mono ?_); rintro e w21 ⟨rfl, hb⟩; refine ⟨_, rfl, ?_⟩; have n0_ := am_ (blk_below (bu BK360.out) hb); have n1_ := am_ (below_step z116_4 hb); clear BK360 HB; have BK360 := n0_; have HB := n1_; clear n0_ n1_; (try clear hb); (try clear hb2); (try clear hk); (try clear hi); have hcz22_0 : w21.cell? ⟨gb360, 0, none⟩ = some (.int .i64 a0_0) := (blk_cell BK360.out 0).trans rfl; have hcz22_1 : w21.cell? ⟨gb360, 1, none⟩ = some (.int .i64 a0_1) := (blk_cell BK360.out 1).trans rfl; have hcz22_2 : w21.cell? ⟨gb360, 2, none⟩ = some (.int .i64 a0_2) := (blk_cell BK360.out 2).trans rfl; have hfz22_0 := blk_frozen BK360.out 0; have hfz22_1 := blk_frozen BK360.out 1; have hfz22_2 := blk_frozen BK360.out 2) | ((with_reducible refine gate_callee (f := 66) rfl ?_); refine goesL_ (some 24) rfl rfl Try.func66 (by kernel_rfl) rfl #[.int .i64 a0_2, .int .i64 1, .int .i64 3] rfl (by (try simp only [List.map_toArray, List.map_cons, List.map_nil]); first | done | rfl | (simp only [List.length_drop, List.length_take]; rfl)) ?_; (with_reducible refine (impl_in.calls a0_2 1 3 t364 _ A16.out).mono ?_); rintro e w' ⟨rfl, ⟨nd, rfl⟩⟩; refine ⟨_, rfl, ?_⟩) | ((with_reducible refine gate_callee (f := 66) rfl ?_); refine goesL_ (some 27) rfl rfl Try.func66 (by kernel_rfl) rfl #[.int .i64 a0_0, .int .i64 1, .int .i64 9] rfl (by (try simp only [List.map_toArray, List.map_cons, List.map_nil]); first | done | rfl | (simp only [List.length_drop, List.length_take]; rfl)) ?_; (with_reducible refine (impl_in.calls a0_0 1 9 true _ A17.out).mono ?_); rintro e w' ⟨rfl, ⟨nd, rfl⟩⟩; refine ⟨_, rfl, ?_⟩))
      go_ret
      exact ⟨z116_2, z116_4⟩
     ·replace c19 := Bool.eq_false_iff.mpr c19
      subst c19
      have H1 : (some false) = some r := by rw [if_neg (show ¬ (false = true) by decide)] at H; exact H
      clear H
      have H := H1
      clear H1
      obtain rfl := Option.some.inj H
      have hcz23_0 : wc.cell? ⟨gb360, 0, none⟩ = some (.int .i64 a0_0) := (blk_cell BK360.out 0).trans rfl
      have hcz23_1 : wc.cell? ⟨gb360, 1, none⟩ = some (.int .i64 a0_1) := (blk_cell BK360.out 1).trans rfl
      have hcz23_2 : wc.cell? ⟨gb360, 2, none⟩ = some (.int .i64 a0_2) := (blk_cell BK360.out 2).trans rfl
      have hfz23_0 := blk_frozen BK360.out 0
      have hfz23_1 := blk_frozen BK360.out 1
      have hfz23_2 := blk_frozen BK360.out 2
      go_wp2_with (first | ((with_reducible refine gate_callee (f := 131) rfl ?_); refine goesL_ (some 21) rfl rfl Try.func131 (by kernel_rfl) rfl #[.agg #[.int .i64 a0_0, .int .i64 a0_1, .int .i64 a0_2]] rfl (by (try simp only [List.map_toArray, List.map_cons, List.map_nil]); first | done | rfl | (simp only [List.length_drop, List.length_take]; rfl)) ?_; (with_reducible refine (impl_Do_valued.calls a0_0 a0_1 a0_2 true _ A14.out).mono ?_); rintro e w24 ⟨rfl, hb⟩; refine ⟨_, rfl, ?_⟩; have n0_ := am_ (blk_below (bu BK360.out) hb); have n1_ := am_ (below_step z116_4 hb); clear BK360 HB; have BK360 := n0_; have HB := n1_; clear n0_ n1_; (try clear hb); (try clear hb2); (try clear hk); (try clear hi); have hcz25_0 : w24.cell? ⟨gb360, 0, none⟩ = some (.int .i64 a0_0) := (blk_cell BK360.out 0).trans rfl; have hcz25_1 : w24.cell? ⟨gb360, 1, none⟩ = some (.int .i64 a0_1) := (blk_cell BK360.out 1).trans rfl; have hcz25_2 : w24.cell? ⟨gb360, 2, none⟩ = some (.int .i64 a0_2) := (blk_cell BK360.out 2).trans rfl; have hfz25_0 := blk_frozen BK360.out 0; have hfz25_1 := blk_frozen BK360.out 1; have hfz25_2 := blk_frozen BK360.out 2) | ((with_reducible refine gate_callee (f := 66) rfl ?_); refine goesL_ (some 24) rfl rfl Try.func66 (by kernel_rfl) rfl #[.int .i64 a0_2, .int .i64 1, .int .i64 3] rfl (by (try simp only [List.map_toArray, List.map_cons, List.map_nil]); first | done | rfl | (simp only [List.length_drop, List.length_take]; rfl)) ?_; (with_reducible refine (impl_in.calls a0_2 1 3 t364 _ A16.out).mono ?_); rintro e w' ⟨rfl, ⟨nd, rfl⟩⟩; refine ⟨_, rfl, ?_⟩) | ((with_reducible refine gate_callee (f := 66) rfl ?_); refine goesL_ (some 27) rfl rfl Try.func66 (by kernel_rfl) rfl #[.int .i64 a0_0, .int .i64 1, .int .i64 9] rfl (by (try simp only [List.map_toArray, List.map_cons, List.map_nil]); first | done | rfl | (simp only [List.length_drop, List.length_take]; rfl)) ?_; (with_reducible refine (impl_in.calls a0_0 1 9 true _ A17.out).mono ?_); rintro e w' ⟨rfl, ⟨nd, rfl⟩⟩; refine ⟨_, rfl, ?_⟩))
      go_ret
      exact ⟨z116_2, z116_4⟩
    ·replace c18 := Bool.eq_false_iff.mpr c18
     subst c18
     have H1 : (some false) = some r := by rw [if_neg (show ¬ (false = true) by decide)] at H; exact H
     clear H
     have H := H1
     clear H1
     obtain rfl := Option.some.inj H
     have hcz26_0 : wc.cell? ⟨gb360, 0, none⟩ = some (.int .i64 a0_0) := (blk_cell BK360.out 0).trans rfl
     have hcz26_1 : wc.cell? ⟨gb360, 1, none⟩ = some (.int .i64 a0_1) := (blk_cell BK360.out 1).trans rfl
     have hcz26_2 : wc.cell? ⟨gb360, 2, none⟩ = some (.int .i64 a0_2) := (blk_cell BK360.out 2).trans rfl
     have hfz26_0 := blk_frozen BK360.out 0
     have hfz26_1 := blk_frozen BK360.out 1
     have hfz26_2 := blk_frozen BK360.out 2
     go_wp2_with (first | ((with_reducible refine gate_callee (f := 131) rfl ?_); refine goesL_ (some 21) rfl rfl Try.func131 (by kernel_rfl) rfl #[.agg #[.int .i64 a0_0, .int .i64 a0_1, .int .i64 a0_2]] rfl (by (try simp only [List.map_toArray, List.map_cons, List.map_nil]); first | done | rfl | (simp only [List.length_drop, List.length_take]; rfl)) ?_; (with_reducible refine (impl_Do_valued.calls a0_0 a0_1 a0_2 true _ A14.out).mono ?_); rintro e w27 ⟨rfl, hb⟩; refine ⟨_, rfl, ?_⟩; have n0_ := am_ (blk_below (bu BK360.out) hb); have n1_ := am_ (below_step z116_4 hb); clear BK360 HB; have BK360 := n0_; have HB := n1_; clear n0_ n1_; (try clear hb); (try clear hb2); (try clear hk); (try clear hi); have hcz28_0 : w27.cell? ⟨gb360, 0, none⟩ = some (.int .i64 a0_0) := (blk_cell BK360.out 0).trans rfl; have hcz28_1 : w27.cell? ⟨gb360, 1, none⟩ = some (.int .i64 a0_1) := (blk_cell BK360.out 1).trans rfl; have hcz28_2 : w27.cell? ⟨gb360, 2, none⟩ = some (.int .i64 a0_2) := (blk_cell BK360.out 2).trans rfl; have hfz28_0 := blk_frozen BK360.out 0; have hfz28_1 := blk_frozen BK360.out 1; have hfz28_2 := blk_frozen BK360.out 2) | ((with_reducible refine gate_callee (f := 66) rfl ?_); refine goesL_ (some 24) rfl rfl Try.func66 (by kernel_rfl) rfl #[.int .i64 a0_2, .int .i64 1, .int .i64 3] rfl (by (try simp only [List.map_toArray, List.map_cons, List.map_nil]); first | done | rfl | (simp only [List.length_drop, List.length_take]; rfl)) ?_; (with_reducible refine (impl_in.calls a0_2 1 3 t364 _ A16.out).mono ?_); rintro e w' ⟨rfl, ⟨nd, rfl⟩⟩; refine ⟨_, rfl, ?_⟩) | ((with_reducible refine gate_callee (f := 66) rfl ?_); refine goesL_ (some 27) rfl rfl Try.func66 (by kernel_rfl) rfl #[.int .i64 a0_0, .int .i64 1, .int .i64 9] rfl (by (try simp only [List.map_toArray, List.map_cons, List.map_nil]); first | done | rfl | (simp only [List.length_drop, List.length_take]; rfl)) ?_; (with_reducible refine (impl_in.calls a0_0 1 9 false _ A17.out).mono ?_); rintro e w' ⟨rfl, ⟨nd, rfl⟩⟩; refine ⟨_, rfl, ?_⟩))
     go_ret
     exact ⟨z116_2, z116_4⟩
   ·replace c15 := Bool.eq_false_iff.mpr c15
    subst c15
    have H1 : ((impl_in.f a0_0 1 9).bind fun t366 => (if t366 = true then (if x3_1 = true then (some (a0_2 == 0)) else (some false)) else (some false))) = some r := by rw [if_neg (show ¬ (false = true) by decide)] at H; exact H
    clear H
    have H := H1
    clear H1
    replace H := Option.bind_eq_some_iff.mp H
    obtain ⟨t366, A290, H⟩ := H
    replace H : (if t366 = true then (if x3_1 = true then (some (a0_2 == 0)) else (some false)) else (some false)) = some r := H
    have A29 := am_ A290
    clear A290
    by_cases c30 : t366 = true
    ·subst c30
     have H1 : (if x3_1 = true then (some (a0_2 == 0)) else (some false)) = some r := by rw [if_pos rfl] at H; exact H
     clear H
     have H := H1
     clear H1
     by_cases c31 : x3_1 = true
     ·subst c31
      have H1 : (some (a0_2 == 0)) = some r := by rw [if_pos rfl] at H; exact H
      clear H
      have H := H1
      clear H1
      obtain rfl := Option.some.inj H
      have hcz32_0 : wc.cell? ⟨gb360, 0, none⟩ = some (.int .i64 a0_0) := (blk_cell BK360.out 0).trans rfl
      have hcz32_1 : wc.cell? ⟨gb360, 1, none⟩ = some (.int .i64 a0_1) := (blk_cell BK360.out 1).trans rfl
      have hcz32_2 : wc.cell? ⟨gb360, 2, none⟩ = some (.int .i64 a0_2) := (blk_cell BK360.out 2).trans rfl
      have hfz32_0 := blk_frozen BK360.out 0
      have hfz32_1 := blk_frozen BK360.out 1
      have hfz32_2 := blk_frozen BK360.out 2
      go_wp2_with (first | ((with_reducible refine gate_callee (f := 131) rfl ?_); refine goesL_ (some 21) rfl rfl Try.func131 (by kernel_rfl) rfl #[.agg #[.int .i64 a0_0, .int .i64 a0_1, .int .i64 a0_2]] rfl (by (try simp only [List.map_toArray, List.map_cons, List.map_nil]); first | done | rfl | (simp only [List.length_drop, List.length_take]; rfl)) ?_; (with_reducible refine (impl_Do_valued.calls a0_0 a0_1 a0_2 false _ A14.out).mono ?_); rintro e w33 ⟨rfl, hb⟩; refine ⟨_, rfl, ?_⟩; have n0_ := am_ (blk_below (bu BK360.out) hb); have n1_ := am_ (below_step z116_4 hb); clear BK360 HB; have BK360 := n0_; have HB := n1_; clear n0_ n1_; (try clear hb); (try clear hb2); (try clear hk); (try clear hi); have hcz34_0 : w33.cell? ⟨gb360, 0, none⟩ = some (.int .i64 a0_0) := (blk_cell BK360.out 0).trans rfl; have hcz34_1 : w33.cell? ⟨gb360, 1, none⟩ = some (.int .i64 a0_1) := (blk_cell BK360.out 1).trans rfl; have hcz34_2 : w33.cell? ⟨gb360, 2, none⟩ = some (.int .i64 a0_2) := (blk_cell BK360.out 2).trans rfl; have hfz34_0 := blk_frozen BK360.out 0; have hfz34_1 := blk_frozen BK360.out 1; have hfz34_2 := blk_frozen BK360.out 2) | ((with_reducible refine gate_callee (f := 66) rfl ?_); refine goesL_ (some 27) rfl rfl Try.func66 (by kernel_rfl) rfl #[.int .i64 a0_0, .int .i64 1, .int .i64 9] rfl (by (try simp only [List.map_toArray, List.map_cons, List.map_nil]); first | done | rfl | (simp only [List.length_drop, List.length_take]; rfl)) ?_; (with_reducible refine (impl_in.calls a0_0 1 9 true _ A29.out).mono ?_); rintro e w' ⟨rfl, ⟨nd, rfl⟩⟩; refine ⟨_, rfl, ?_⟩))
      go_ret
      exact ⟨z116_2, z116_4⟩
     ·replace c31 := Bool.eq_false_iff.mpr c31
      subst c31
      have H1 : (some false) = some r := by rw [if_neg (show ¬ (false = true) by decide)] at H; exact H
      clear H
      have H := H1
      clear H1
      obtain rfl := Option.some.inj H
      have hcz35_0 : wc.cell? ⟨gb360, 0, none⟩ = some (.int .i64 a0_0) := (blk_cell BK360.out 0).trans rfl
      have hcz35_1 : wc.cell? ⟨gb360, 1, none⟩ = some (.int .i64 a0_1) := (blk_cell BK360.out 1).trans rfl
      have hcz35_2 : wc.cell? ⟨gb360, 2, none⟩ = some (.int .i64 a0_2) := (blk_cell BK360.out 2).trans rfl
      have hfz35_0 := blk_frozen BK360.out 0
      have hfz35_1 := blk_frozen BK360.out 1
      have hfz35_2 := blk_frozen BK360.out 2
      go_wp2_with (first | ((with_reducible refine gate_callee (f := 131) rfl ?_); refine goesL_ (some 21) rfl rfl Try.func131 (by kernel_rfl) rfl #[.agg #[.int .i64 a0_0, .int .i64 a0_1, .int .i64 a0_2]] rfl (by (try simp only [List.map_toArray, List.map_cons, List.map_nil]); first | done | rfl | (simp only [List.length_drop, List.length_take]; rfl)) ?_; (with_reducible refine (impl_Do_valued.calls a0_0 a0_1 a0_2 false _ A14.out).mono ?_); rintro e w36 ⟨rfl, hb⟩; refine ⟨_, rfl, ?_⟩; have n0_ := am_ (blk_below (bu BK360.out) hb); have n1_ := am_ (below_step z116_4 hb); clear BK360 HB; have BK360 := n0_; have HB := n1_; clear n0_ n1_; (try clear hb); (try clear hb2); (try clear hk); (try clear hi); have hcz37_0 : w36.cell? ⟨gb360, 0, none⟩ = some (.int .i64 a0_0) := (blk_cell BK360.out 0).trans rfl; have hcz37_1 : w36.cell? ⟨gb360, 1, none⟩ = some (.int .i64 a0_1) := (blk_cell BK360.out 1).trans rfl; have hcz37_2 : w36.cell? ⟨gb360, 2, none⟩ = some (.int .i64 a0_2) := (blk_cell BK360.out 2).trans rfl; have hfz37_0 := blk_frozen BK360.out 0; have hfz37_1 := blk_frozen BK360.out 1; have hfz37_2 := blk_frozen BK360.out 2) | ((with_reducible refine gate_callee (f := 66) rfl ?_); refine goesL_ (some 27) rfl rfl Try.func66 (by kernel_rfl) rfl #[.int .i64 a0_0, .int .i64 1, .int .i64 9] rfl (by (try simp only [List.map_toArray, List.map_cons, List.map_nil]); first | done | rfl | (simp only [List.length_drop, List.length_take]; rfl)) ?_; (with_reducible refine (impl_in.calls a0_0 1 9 true _ A29.out).mono ?_); rintro e w' ⟨rfl, ⟨nd, rfl⟩⟩; refine ⟨_, rfl, ?_⟩))
      go_ret
      exact ⟨z116_2, z116_4⟩
    ·replace c30 := Bool.eq_false_iff.mpr c30
     subst c30
     have H1 : (some false) = some r := by rw [if_neg (show ¬ (false = true) by decide)] at H; exact H
     clear H
     have H := H1
     clear H1
     obtain rfl := Option.some.inj H
     have hcz38_0 : wc.cell? ⟨gb360, 0, none⟩ = some (.int .i64 a0_0) := (blk_cell BK360.out 0).trans rfl
     have hcz38_1 : wc.cell? ⟨gb360, 1, none⟩ = some (.int .i64 a0_1) := (blk_cell BK360.out 1).trans rfl
     have hcz38_2 : wc.cell? ⟨gb360, 2, none⟩ = some (.int .i64 a0_2) := (blk_cell BK360.out 2).trans rfl
     have hfz38_0 := blk_frozen BK360.out 0
     have hfz38_1 := blk_frozen BK360.out 1
     have hfz38_2 := blk_frozen BK360.out 2
     go_wp2_with (first | ((with_reducible refine gate_callee (f := 131) rfl ?_); refine goesL_ (some 21) rfl rfl Try.func131 (by kernel_rfl) rfl #[.agg #[.int .i64 a0_0, .int .i64 a0_1, .int .i64 a0_2]] rfl (by (try simp only [List.map_toArray, List.map_cons, List.map_nil]); first | done | rfl | (simp only [List.length_drop, List.length_take]; rfl)) ?_; (with_reducible refine (impl_Do_valued.calls a0_0 a0_1 a0_2 false _ A14.out).mono ?_); rintro e w39 ⟨rfl, hb⟩; refine ⟨_, rfl, ?_⟩; have n0_ := am_ (blk_below (bu BK360.out) hb); have n1_ := am_ (below_step z116_4 hb); clear BK360 HB; have BK360 := n0_; have HB := n1_; clear n0_ n1_; (try clear hb); (try clear hb2); (try clear hk); (try clear hi); have hcz40_0 : w39.cell? ⟨gb360, 0, none⟩ = some (.int .i64 a0_0) := (blk_cell BK360.out 0).trans rfl; have hcz40_1 : w39.cell? ⟨gb360, 1, none⟩ = some (.int .i64 a0_1) := (blk_cell BK360.out 1).trans rfl; have hcz40_2 : w39.cell? ⟨gb360, 2, none⟩ = some (.int .i64 a0_2) := (blk_cell BK360.out 2).trans rfl; have hfz40_0 := blk_frozen BK360.out 0; have hfz40_1 := blk_frozen BK360.out 1; have hfz40_2 := blk_frozen BK360.out 2) | ((with_reducible refine gate_callee (f := 66) rfl ?_); refine goesL_ (some 27) rfl rfl Try.func66 (by kernel_rfl) rfl #[.int .i64 a0_0, .int .i64 1, .int .i64 9] rfl (by (try simp only [List.map_toArray, List.map_cons, List.map_nil]); first | done | rfl | (simp only [List.length_drop, List.length_take]; rfl)) ?_; (with_reducible refine (impl_in.calls a0_0 1 9 false _ A29.out).mono ?_); rintro e w' ⟨rfl, ⟨nd, rfl⟩⟩; refine ⟨_, rfl, ?_⟩))
     go_ret
     exact ⟨z116_2, z116_4⟩

end Go.Proofs.Ytefkbmhkhpekjaa.PB

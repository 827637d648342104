-- Joined by wip/mclaim.py out of YtefkbmhkhpekjaaPBx43, YtefkbmhkhpekjaaPBx105, YtefkbmhkhpekjaaPBx128, YtefkbmhkhpekjaaPBx104
import Derived.Test.YtefkbmhkhpekjaaPBx0
import Derived.Test.YtefkbmhkhpekjaaPBx87
import Derived.Test.YtefkbmhkhpekjaaPBx88
import Derived.Test.YtefkbmhkhpekjaaPBx93
import Derived.Test.YtefkbmhkhpekjaaPBx72
namespace Go.Proofs.Ytefkbmhkhpekjaa.PB
open Go.RowKit Go.Proofs.YtefkbmhkhpekjaaW.PrintWords Go.Proofs.YtefkbmhkhpekjaaW.PrintLast Go.Proofs.YtefkbmhkhpekjaaW.PrintMore
attribute [local go_sem] max2_int min2_int max_two min_two max_three min_three max_four min_four   -- for this text's walks alone
open Go.Proofs.YtefkbmhkhpekjaaMine
set_option linter.unusedVariables false
set_option linter.unusedSimpArgs false

theorem z43_1 {p : Prop} (h : p := by first | rfl | (simp; done) | (simp [*]; done)) : p := h
theorem z43_2 {p : Prop} (h : p := by first | (with_reducible assumption) | assumption) : p := h
theorem z43_3 {p : Prop} (h : p := by first | rfl | (simp [errW_none, errW_some] <;> rfl) | (simp [*, errW_none, errW_some] <;> rfl)) : p := h
theorem z43_4 {p : Prop} (h : p := by repeat (first | (with_reducible first | exact HB.out | apply below_alloc | apply pw_below_drewN | apply below_drew1) | exact HB.out)) : p := h
theorem z43_5 {p : Prop} (h : p := by repeat (first | (with_reducible first | exact HB.out | apply below_alloc | apply pw_below_drewN | apply below_drew1 | refine below_set ?_ GE571.out) | exact HB.out)) : p := h
/-! ### spec_ProgOk: function 43 -/
mutual
def spec_ProgOk.l0 : Nat → Int → Int → Int → List (List (S85)) → Option (Bool)
  | 0, _, _, _, _ => none
  | k + 1, x3, x4, x5, x00 => if x5 < (x00.length : Int) then (if 0 ≤ x5 then ((spec_l1Thread.f k (rd_L7 x00 x5)).bind fun t573 => (if t573 = true then (spec_ProgOk.l1 k (wrap64 (x3 + ((rd_L7 x00 x5).length : Int))) x4 x5 0 x00) else (some false))) else (none)) else (if x3 ≤ 14 then (some (decide (x4 ≤ 6))) else (some false))
def spec_ProgOk.l1 : Nat → Int → Int → Int → Int → List (List (S85)) → Option (Bool)
  | 0, _, _, _, _, _ => none
  | k + 1, x3, x4, x5, x6, x00 => if 0 ≤ x5 then (if x5 < (x00.length : Int) then (if x6 < ((rd_L7 x00 x5).length : Int) then (if 0 ≤ x6 then ((spec_l1Reads.f ((rd_T85 (rd_L7 x00 x5) x6).f0) ((rd_T85 (rd_L7 x00 x5) x6).f1) ((rd_T85 (rd_L7 x00 x5) x6).f2)).bind fun t578 => (if t578 = true then (spec_ProgOk.l1 k x3 (wrap64 (x4 + 1)) x5 (wrap64 (x6 + 1)) x00) else ((spec_l1Writes.f ((rd_T85 (rd_L7 x00 x5) x6).f0) ((rd_T85 (rd_L7 x00 x5) x6).f1) ((rd_T85 (rd_L7 x00 x5) x6).f2)).bind fun t581 => (if t581 = true then (spec_ProgOk.l1 k x3 (wrap64 (x4 + 1)) x5 (wrap64 (x6 + 1)) x00) else (spec_ProgOk.l1 k x3 x4 x5 (wrap64 (x6 + 1)) x00))))) else (none)) else (spec_ProgOk.l0 k x3 x4 (wrap64 (x5 + 1)) x00)) else (none)) else (none)
end
def spec_ProgOk.f (k : Nat) (l0_0 : List (List (S85))) : Option (Bool) := if (l0_0.length : Int) > 3 then (some false) else (spec_ProgOk.l0 k 0 0 0 l0_0)
set_option maxHeartbeats 8000000 in
set_option maxRecDepth 100000 in
theorem spec_ProgOk.calls (k : Nat) (A0_0 : Option Addr) (c0_0 : Nat) (l0_0 : List (List (S85))) (r : Bool) (w : World) (hr0_0 : Kd.C (Kd.slice 85 k85) w A0_0 l0_0.length l0_0) (hc0_0 : l0_0.length ≤ c0_0) (h : spec_ProgOk.f k l0_0 = some r) :
  Calls Try.prog 43 #[.agg #[.slice A0_0 l0_0.length c0_0]] w fun e w' => e = .returned (.bool r) ∧ Below w.heap.size w w' := by
 have hu35 := Try.underlying35
 have hu85 := Try.underlying85
 have HR0_0 := am_ hr0_0
 have HC0_0 := am_ hc0_0
 clear hr0_0 hc0_0
 have HB := am_ (Below.refl w.heap.size w)
 have H : (if (l0_0.length : Int) > 3 then (some false) else (spec_ProgOk.l0 k 0 0 0 l0_0)) = some r := h
 clear h
 by_cases c2 : (l0_0.length : Int) > 3
 ·rw [if_pos c2] at H
  have c2b0 : decide (3 < (l0_0.length : Int)) = true := decide_eq_true c2
  have c2b1 : decide (3 < l0_0.length) = true := decide_eq_true (by omega)
  clear c2
  obtain rfl := Option.some.inj H
  go_enter Try.func43, Try.ntmps43
  go_wp2_with (first | ((with_reducible refine gate_dst (N := 1) rfl ?_); refine box_event ?hg (N := 1) ?hd (cs := #[.slice A0_0 l0_0.length c0_0]) (t := 35) ?hr ?_; (case hd => rfl); (case hg => rfl); (case hr => first | (go_simp; done) | (go_simp; rfl)); intro gb571 hg w3 hbox hb; have n0_ := am_ (below_step z43_4 hb); have n1_ := am_ (hbox); have n2_ := am_ (by rw [hg]; exact (below_size z43_4) : w.heap.size ≤ gb571); have n3_ := am_ (by rw [hg]; exact (below_size z43_4) : w.heap.size ≤ gb571); clear HB; have HB := n0_; have BK571 := n1_; have GW571 := n2_; have GE571 := n3_; clear n0_ n1_ n2_ n3_; clear hb hbox hg; have hcz4_0 := cf0 BK571.out; have hfz4_0 := blk_frozen BK571.out 0))
  go_ret
  exact ⟨z43_3, z43_5⟩
 rw [if_neg c2] at H
 have c2b0 : decide (3 < (l0_0.length : Int)) = false := decide_eq_false c2
 have c2b1 : decide (3 < l0_0.length) = false := decide_eq_false (by omega)
 clear c2
 have H' := am_ H
 clear H
 go_enter Try.func43, Try.ntmps43
 go_wp2_with (first | ((with_reducible refine gate_dst (N := 1) rfl ?_); refine box_event ?hg (N := 1) ?hd (cs := #[.slice A0_0 l0_0.length c0_0]) (t := 35) ?hr ?_; (case hd => rfl); (case hg => rfl); (case hr => first | (go_simp; done) | (go_simp; rfl)); intro gb571 hg w5 hbox hb; have n0_ := am_ (below_step z43_4 hb); have n1_ := am_ (hbox); have n2_ := am_ (by rw [hg]; exact (below_size z43_4) : w.heap.size ≤ gb571); have n3_ := am_ (by rw [hg]; exact (below_size z43_4) : w.heap.size ≤ gb571); clear HB; have HB := n0_; have BK571 := n1_; have GW571 := n2_; have GE571 := n3_; clear n0_ n1_ n2_ n3_; clear hb hbox hg; have hcz6_0 := cf0 BK571.out; have hfz6_0 := blk_frozen BK571.out 0))
 go_loopg [3, 4, 5] k (fun kq v3 v4 v5 w' => ∃ (x3_1 : Int) (x4_1 : Int) (x5_1 : Int), v3 = .int .i64 x3_1 ∧ v4 = .int .i64 x4_1 ∧ v5 = .int .i64 x5_1 ∧ Aside0 (spec_ProgOk.l0 kq x3_1 x4_1 x5_1 l0_0 = some r) ∧ Aside0 (kq ≤ k) ∧ Aside0 (w'.heap[gb571]? = some (.cells #[(.slice A0_0 l0_0.length c0_0)] 35 (0, 0))) ∧ Aside0 (Below w.heap.size w w'))
 case atStart => exact ⟨(0), (0), (0), z43_1, z43_1, z43_1, H', ⟨Nat.le_refl _⟩, ⟨bu BK571.out⟩, ⟨z43_5⟩⟩
 case round =>
  clear H'
  obtain ⟨x3_1, x4_1, x5_1, rfl, rfl, rfl, HA, HK1, BK571, HB⟩ := hrel
  cases gk with
  | zero => exact absurd HA.out (by simp [spec_ProgOk.l0])
  | succ k1 =>
   have H := HA.out
   clear HA
   simp only [spec_ProgOk.l0] at H
   by_cases c7 : x5_1 < (l0_0.length : Int)
   ·rw [if_pos c7] at H
    have c7b0 : decide (x5_1 < (l0_0.length : Int)) = true := decide_eq_true c7
    clear c7
    by_cases c8 : 0 ≤ x5_1
    ·rw [if_pos c8] at H
     have c8b0 : decide (0 ≤ x5_1) = true := decide_eq_true c8
     clear c8
     replace H := Option.bind_eq_some_iff.mp H
     obtain ⟨t573, A90, H⟩ := H
     replace H : (if t573 = true then (spec_ProgOk.l1 k1 (wrap64 (x3_1 + ((rd_L7 l0_0 x5_1).length : Int))) x4_1 x5_1 0 l0_0) else (some false)) = some r := H
     have A9 := am_ A90
     clear A90
     by_cases c10 : t573 = true
     ·subst c10
      have H1 : (spec_ProgOk.l1 k1 (wrap64 (x3_1 + ((rd_L7 l0_0 x5_1).length : Int))) x4_1 x5_1 0 l0_0) = some r := by rw [if_pos rfl] at H; exact H
      clear H
      have H := H1
      clear H1
      have H' := am_ H
      clear H
      have hcz11_0 := cf0 BK571.out
      have hfz11_0 := blk_frozen BK571.out 0
      have p572 : 0 ≤ (x5_1 : Int) := of_decide_eq_true z43_2
      have q572 : x5_1 < (l0_0.length : Int) := of_decide_eq_true z43_2
      obtain ⟨ad572, A572_0, c572_0, e572, hx572_0, hl572_0, hi572_0⟩ := at_L7 HR0_0.out x5_1 p572 q572
      cases e572
      replace hx572_0 := (HB.out.cell (World.block_lt_of_cell? w _ hx572_0)).trans hx572_0
      have HR572_0 := am_ hi572_0
      have HC572_0 := am_ hl572_0
      clear hi572_0 hl572_0
      replace p572 := eq_true p572
      replace q572 := eq_true q572
      go_wp2_with (first | ((with_reducible refine gate_callee (f := 93) rfl ?_); refine goesL_ (some 23) rfl rfl Try.func93 (by kernel_rfl) rfl #[.slice A572_0 (rd_L7 l0_0 x5_1).length c572_0] rfl (by (try simp only [List.map_toArray, List.map_cons, List.map_nil]); first | done | rfl | (simp only [List.length_drop, List.length_take]; rfl)) ?_; (with_reducible refine (spec_l1Thread.calls k1 _ _ (rd_L7 l0_0 x5_1) true _ ?side1 ?side2 A9.out).mono ?_); (case side1 => repeat (first | exact (Kd.C_below HR572_0.out HB.out) | (with_reducible refine Kd.C_alloc ?_ _) | (with_reducible refine Kd.C_drewN ?_ _) | (with_reducible refine Kd.C_drew ?_))); (case side2 => exact HC572_0.out); rintro e w12 ⟨rfl, hb⟩; refine ⟨_, rfl, ?_⟩; replace BK571 := am_ (blk_below (bu BK571.out) hb); replace HB := am_ (below_step z43_5 hb); (try clear hb); (try clear hb2); (try clear hk); (try clear hi); have hcz13_0 := cf0 BK571.out; have hfz13_0 := blk_frozen BK571.out 0; have p574 : 0 ≤ (x5_1 : Int) := of_decide_eq_true z43_2; have q574 : x5_1 < (l0_0.length : Int) := of_decide_eq_true z43_2; obtain ⟨ad574, A574_0, c574_0, e574, hx574_0, hl574_0, hi574_0⟩ := at_L7 HR0_0.out x5_1 p574 q574; obtain rfl : ad572 = ad574 := (by injection e574); replace hx574_0 := (HB.out.cell (World.block_lt_of_cell? w _ hx574_0)).trans hx574_0; have HR574_0 := am_ hi574_0; have HC574_0 := am_ hl574_0; clear hi574_0 hl574_0; replace p574 := eq_true p574; replace q574 := eq_true q574))
      go_loopg [4, 6] k1 (fun kq v4 v6 w' => ∃ (x4_2 : Int) (x6_2 : Int), v4 = .int .i64 x4_2 ∧ v6 = .int .i64 x6_2 ∧ Aside0 (spec_ProgOk.l1 kq (wrap64 (x3_1 + ((rd_L7 l0_0 x5_1).length : Int))) x4_2 x5_1 x6_2 l0_0 = some r) ∧ Aside0 (kq ≤ k1) ∧ Aside0 (w'.heap[gb571]? = some (.cells #[(.slice (some ad572) l0_0.length c0_0)] 35 (0, 0))) ∧ Aside0 (Below w.heap.size w w'))
      case atStart => exact ⟨(x4_1), (0), z43_1, z43_1, H', ⟨Nat.le_refl _⟩, ⟨bu BK571.out⟩, ⟨z43_5⟩⟩
      case round =>
       clear H'
       obtain ⟨x4_2, x6_2, rfl, rfl, HA, HK2, BK571, HB⟩ := hrel
       cases gk with
       | zero => exact absurd HA.out (by simp [spec_ProgOk.l1])
       | succ k2 =>
        have H := HA.out
        clear HA
        simp only [spec_ProgOk.l1] at H
        by_cases c14 : 0 ≤ x5_1
        ·rw [if_pos c14] at H
         have c14b0 : decide (0 ≤ x5_1) = true := decide_eq_true c14
         clear c14
         by_cases c15 : x5_1 < (l0_0.length : Int)
         ·rw [if_pos c15] at H
          have c15b0 : decide (x5_1 < (l0_0.length : Int)) = true := decide_eq_true c15
          clear c15
          by_cases c16 : x6_2 < ((rd_L7 l0_0 x5_1).length : Int)
          ·rw [if_pos c16] at H
           have c16b0 : decide (x6_2 < ((rd_L7 l0_0 x5_1).length : Int)) = true := decide_eq_true c16
           clear c16
           by_cases c17 : 0 ≤ x6_2
           ·rw [if_pos c17] at H
            have c17b0 : decide (0 ≤ x6_2) = true := decide_eq_true c17
            clear c17
            replace H := Option.bind_eq_some_iff.mp H
            obtain ⟨t578, A180, H⟩ := H
            replace H : (if t578 = true then (spec_ProgOk.l1 k2 (wrap64 (x3_1 + ((rd_L7 l0_0 x5_1).length : Int))) (wrap64 (x4_2 + 1)) x5_1 (wrap64 (x6_2 + 1)) l0_0) else ((spec_l1Writes.f ((rd_T85 (rd_L7 l0_0 x5_1) x6_2).f0) ((rd_T85 (rd_L7 l0_0 x5_1) x6_2).f1) ((rd_T85 (rd_L7 l0_0 x5_1) x6_2).f2)).bind fun t581 => (if t581 = true then (spec_ProgOk.l1 k2 (wrap64 (x3_1 + ((rd_L7 l0_0 x5_1).length : Int))) (wrap64 (x4_2 + 1)) x5_1 (wrap64 (x6_2 + 1)) l0_0) else (spec_ProgOk.l1 k2 (wrap64 (x3_1 + ((rd_L7 l0_0 x5_1).length : Int))) x4_2 x5_1 (wrap64 (x6_2 + 1)) l0_0)))) = some r := H
            have A18 := am_ A180
            clear A180
            by_cases c19 : t578 = true
            ·subst c19
             have H1 : (spec_ProgOk.l1 k2 (wrap64 (x3_1 + ((rd_L7 l0_0 x5_1).length : Int))) (wrap64 (x4_2 + 1)) x5_1 (wrap64 (x6_2 + 1)) l0_0) = some r := by rw [if_pos rfl] at H; exact H
             clear H
             have H := H1
             clear H1
             have H' := am_ H
             clear H
             have hcz20_0 := cf0 BK571.out
             have hfz20_0 := blk_frozen BK571.out 0
             have p575 : 0 ≤ (x5_1 : Int) := of_decide_eq_true z43_2
             have q575 : x5_1 < (l0_0.length : Int) := of_decide_eq_true z43_2
             obtain ⟨ad575, A575_0, c575_0, e575, hx575_0, hl575_0, hi575_0⟩ := at_L7 HR0_0.out x5_1 p575 q575
             obtain rfl : ad572 = ad575 := (by injection e575)
             replace hx575_0 := (HB.out.cell (World.block_lt_of_cell? w _ hx575_0)).trans hx575_0
             have HR575_0 := am_ hi575_0
             have HC575_0 := am_ hl575_0
             clear hi575_0 hl575_0
             replace p575 := eq_true p575
             replace q575 := eq_true q575
             have p576 : 0 ≤ (x5_1 : Int) := of_decide_eq_true z43_2
             have q576 : x5_1 < (l0_0.length : Int) := of_decide_eq_true z43_2
             obtain ⟨ad576, A576_0, c576_0, e576, hx576_0, hl576_0, hi576_0⟩ := at_L7 HR0_0.out x5_1 p576 q576
             obtain rfl : ad572 = ad576 := (by injection e576)
             replace hx576_0 := (HB.out.cell (World.block_lt_of_cell? w _ hx576_0)).trans hx576_0
             have HR576_0 := am_ hi576_0
             have HC576_0 := am_ hl576_0
             clear hi576_0 hl576_0
             replace p576 := eq_true p576
             replace q576 := eq_true q576
             have ea_ := Option.some.inj (hx575_0.symm.trans hx576_0)
             injection ea_ with ea_ en_ ec_
             subst ea_
             subst ec_
             clear en_
             have p577 : 0 ≤ (x6_2 : Int) := of_decide_eq_true z43_2
             have q577 : x6_2 < ((rd_L7 l0_0 x5_1).length : Int) := of_decide_eq_true z43_2
             obtain ⟨ad577, e577, hx577_0, hx577_1, hx577_2⟩ := at_T85 HR576_0.out x6_2 p577 q577
             cases e577
             replace hx577_0 := (HB.out.cell (World.block_lt_of_cell? w _ hx577_0)).trans hx577_0
             replace hx577_1 := (HB.out.cell (World.block_lt_of_cell? w _ hx577_1)).trans hx577_1
             replace hx577_2 := (HB.out.cell (World.block_lt_of_cell? w _ hx577_2)).trans hx577_2
             replace p577 := eq_true p577
             replace q577 := eq_true q577
             go_wp2_with (first | ((with_reducible refine gate_callee (f := 87) rfl ?_); refine goesL_ (some 51) rfl rfl Try.func87 (by kernel_rfl) rfl #[.agg #[.int .i64 ((rd_T85 (rd_L7 l0_0 x5_1) x6_2).f0), .int .i64 ((rd_T85 (rd_L7 l0_0 x5_1) x6_2).f1), .int .i64 ((rd_T85 (rd_L7 l0_0 x5_1) x6_2).f2)]] rfl (by (try simp only [List.map_toArray, List.map_cons, List.map_nil]); first | done | rfl | (simp only [List.length_drop, List.length_take]; rfl)) ?_; (with_reducible refine (spec_l1Reads.calls ((rd_T85 (rd_L7 l0_0 x5_1) x6_2).f0) ((rd_T85 (rd_L7 l0_0 x5_1) x6_2).f1) ((rd_T85 (rd_L7 l0_0 x5_1) x6_2).f2) true _ A18.out).mono ?_); rintro e w21 ⟨rfl, hb⟩; refine ⟨_, rfl, ?_⟩; replace BK571 := am_ (blk_below (bu BK571.out) hb); replace HB := am_ (below_step z43_5 hb); (try clear hb); (try clear hb2); (try clear hk); (try clear hi)))
             go_roundg k2
             case measure => have := HK1.out; have := HK2.out; omega
             case rel => exact ⟨(wrap64 (x4_2 + 1)), (wrap64 (x6_2 + 1)), z43_1, z43_1, H', ⟨by have := HK1.out; have := HK2.out; omega⟩, ⟨bu BK571.out⟩, ⟨z43_5⟩⟩
            replace c19 := Bool.eq_false_iff.mpr c19
            subst c19
            have H1 : ((spec_l1Writes.f ((rd_T85 (rd_L7 l0_0 x5_1) x6_2).f0) ((rd_T85 (rd_L7 l0_0 x5_1) x6_2).f1) ((rd_T85 (rd_L7 l0_0 x5_1) x6_2).f2)).bind fun t581 => (if t581 = true then (spec_ProgOk.l1 k2 (wrap64 (x3_1 + ((rd_L7 l0_0 x5_1).length : Int))) (wrap64 (x4_2 + 1)) x5_1 (wrap64 (x6_2 + 1)) l0_0) else (spec_ProgOk.l1 k2 (wrap64 (x3_1 + ((rd_L7 l0_0 x5_1).length : Int))) x4_2 x5_1 (wrap64 (x6_2 + 1)) l0_0))) = some r := by rw [if_neg (show ¬ (false = true) by decide)] at H; exact H
            clear H
            have H := H1
            clear H1
            replace H := Option.bind_eq_some_iff.mp H
            obtain ⟨t581, A220, H⟩ := H
            replace H : (if t581 = true then (spec_ProgOk.l1 k2 (wrap64 (x3_1 + ((rd_L7 l0_0 x5_1).length : Int))) (wrap64 (x4_2 + 1)) x5_1 (wrap64 (x6_2 + 1)) l0_0) else (spec_ProgOk.l1 k2 (wrap64 (x3_1 + ((rd_L7 l0_0 x5_1).length : Int))) x4_2 x5_1 (wrap64 (x6_2 + 1)) l0_0)) = some r := H
            have A22 := am_ A220
            clear A220
            by_cases c23 : t581 = true
            ·subst c23
             have H1 : (spec_ProgOk.l1 k2 (wrap64 (x3_1 + ((rd_L7 l0_0 x5_1).length : Int))) (wrap64 (x4_2 + 1)) x5_1 (wrap64 (x6_2 + 1)) l0_0) = some r := by rw [if_pos rfl] at H; exact H
             clear H
             have H := H1
             clear H1
             have H' := am_ H
             clear H
             have hcz24_0 := cf0 BK571.out
             have hfz24_0 := blk_frozen BK571.out 0
             have p575 : 0 ≤ (x5_1 : Int) := of_decide_eq_true z43_2
             have q575 : x5_1 < (l0_0.length : Int) := of_decide_eq_true z43_2
             obtain ⟨ad575, A575_0, c575_0, e575, hx575_0, hl575_0, hi575_0⟩ := at_L7 HR0_0.out x5_1 p575 q575
             obtain rfl : ad572 = ad575 := (by injection e575)
             replace hx575_0 := (HB.out.cell (World.block_lt_of_cell? w _ hx575_0)).trans hx575_0
             have HR575_0 := am_ hi575_0
             have HC575_0 := am_ hl575_0
             clear hi575_0 hl575_0
             replace p575 := eq_true p575
             replace q575 := eq_true q575
             have p576 : 0 ≤ (x5_1 : Int) := of_decide_eq_true z43_2
             have q576 : x5_1 < (l0_0.length : Int) := of_decide_eq_true z43_2
             obtain ⟨ad576, A576_0, c576_0, e576, hx576_0, hl576_0, hi576_0⟩ := at_L7 HR0_0.out x5_1 p576 q576
             obtain rfl : ad572 = ad576 := (by injection e576)
             replace hx576_0 := (HB.out.cell (World.block_lt_of_cell? w _ hx576_0)).trans hx576_0
             have HR576_0 := am_ hi576_0
             have HC576_0 := am_ hl576_0
             clear hi576_0 hl576_0
             replace p576 := eq_true p576
             replace q576 := eq_true q576
             have ea_ := Option.some.inj (hx575_0.symm.trans hx576_0)
             injection ea_ with ea_ en_ ec_
             subst ea_
             subst ec_
             clear en_
             have p577 : 0 ≤ (x6_2 : Int) := of_decide_eq_true z43_2
             have q577 : x6_2 < ((rd_L7 l0_0 x5_1).length : Int) := of_decide_eq_true z43_2
             obtain ⟨ad577, e577, hx577_0, hx577_1, hx577_2⟩ := at_T85 HR576_0.out x6_2 p577 q577
             cases e577
             replace hx577_0 := (HB.out.cell (World.block_lt_of_cell? w _ hx577_0)).trans hx577_0
             replace hx577_1 := (HB.out.cell (World.block_lt_of_cell? w _ hx577_1)).trans hx577_1
             replace hx577_2 := (HB.out.cell (World.block_lt_of_cell? w _ hx577_2)).trans hx577_2
             replace p577 := eq_true p577
             replace q577 := eq_true q577
             go_wp2_with (first | ((with_reducible refine gate_callee (f := 87) rfl ?_); refine goesL_ (some 51) rfl rfl Try.func87 (by kernel_rfl) rfl #[.agg #[.int .i64 ((rd_T85 (rd_L7 l0_0 x5_1) x6_2).f0), .int .i64 ((rd_T85 (rd_L7 l0_0 x5_1) x6_2).f1), .int .i64 ((rd_T85 (rd_L7 l0_0 x5_1) x6_2).f2)]] rfl (by (try simp only [List.map_toArray, List.map_cons, List.map_nil]); first | done | rfl | (simp only [List.length_drop, List.length_take]; rfl)) ?_; (with_reducible refine (spec_l1Reads.calls ((rd_T85 (rd_L7 l0_0 x5_1) x6_2).f0) ((rd_T85 (rd_L7 l0_0 x5_1) x6_2).f1) ((rd_T85 (rd_L7 l0_0 x5_1) x6_2).f2) false _ A18.out).mono ?_); rintro e w25 ⟨rfl, hb⟩; refine ⟨_, rfl, ?_⟩; replace BK571 := am_ (blk_below (bu BK571.out) hb); replace HB := am_ (below_step z43_5 hb); (try clear hb); (try clear hb2); (try clear hk); (try clear hi); have hcz26_0 := cf0 BK571.out; have hfz26_0 := blk_frozen BK571.out 0; have p579 : 0 ≤ (x5_1 : Int) := of_decide_eq_true z43_2; have q579 : x5_1 < (l0_0.length : Int) := of_decide_eq_true z43_2; obtain ⟨ad579, A579_0, c579_0, e579, hx579_0, hl579_0, hi579_0⟩ := at_L7 HR0_0.out x5_1 p579 q579; obtain rfl : ad572 = ad579 := (by injection e579); replace hx579_0 := (HB.out.cell (World.block_lt_of_cell? w _ hx579_0)).trans hx579_0; have HR579_0 := am_ hi579_0; have HC579_0 := am_ hl579_0; clear hi579_0 hl579_0; replace p579 := eq_true p579; replace q579 := eq_true q579; have p580 : 0 ≤ (x6_2 : Int) := of_decide_eq_true z43_2; have q580 : x6_2 < ((rd_L7 l0_0 x5_1).length : Int) := of_decide_eq_true z43_2; obtain ⟨ad580, e580, hx580_0, hx580_1, hx580_2⟩ := at_T85 HR579_0.out x6_2 p580 q580; cases e580; replace hx580_0 := (HB.out.cell (World.block_lt_of_cell? w _ hx580_0)).trans hx580_0; replace hx580_1 := (HB.out.cell (World.block_lt_of_cell? w _ hx580_1)).trans hx580_1; replace hx580_2 := (HB.out.cell (World.block_lt_of_cell? w _ hx580_2)).trans hx580_2; replace p580 := eq_true p580; replace q580 := eq_true q580) | (go_at_call 88; (with_reducible refine (spec_l1Writes.calls ((rd_T85 (rd_L7 l0_0 x5_1) x6_2).f0) ((rd_T85 (rd_L7 l0_0 x5_1) x6_2).f1) ((rd_T85 (rd_L7 l0_0 x5_1) x6_2).f2) true _ A22.out).mono ?_); rintro e w27 ⟨rfl, hb⟩; replace BK571 := am_ (blk_below (bu BK571.out) hb); replace HB := am_ (below_step z43_5 hb); (try clear hb); (try clear hb2); (try clear hk); (try clear hi)))
             go_roundg k2
             case measure => have := HK1.out; have := HK2.out; omega
             case rel => exact ⟨(wrap64 (x4_2 + 1)), (wrap64 (x6_2 + 1)), z43_1, z43_1, H', ⟨by have := HK1.out; have := HK2.out; omega⟩, ⟨bu BK571.out⟩, ⟨z43_5⟩⟩
            replace c23 := Bool.eq_false_iff.mpr c23
            subst c23
            have H1 : (spec_ProgOk.l1 k2 (wrap64 (x3_1 + ((rd_L7 l0_0 x5_1).length : Int))) x4_2 x5_1 (wrap64 (x6_2 + 1)) l0_0) = some r := by rw [if_neg (show ¬ (false = true) by decide)] at H; exact H
            clear H
            have H := H1
            clear H1
            have H' := am_ H
            clear H
            have hcz28_0 := cf0 BK571.out
            have hfz28_0 := blk_frozen BK571.out 0
            have p575 : 0 ≤ (x5_1 : Int) := of_decide_eq_true z43_2
            have q575 : x5_1 < (l0_0.length : Int) := of_decide_eq_true z43_2
            obtain ⟨ad575, A575_0, c575_0, e575, hx575_0, hl575_0, hi575_0⟩ := at_L7 HR0_0.out x5_1 p575 q575
            obtain rfl : ad572 = ad575 := (by injection e575)
            replace hx575_0 := (HB.out.cell (World.block_lt_of_cell? w _ hx575_0)).trans hx575_0
            have HR575_0 := am_ hi575_0
            have HC575_0 := am_ hl575_0
            clear hi575_0 hl575_0
            replace p575 := eq_true p575
            replace q575 := eq_true q575
            have p576 : 0 ≤ (x5_1 : Int) := of_decide_eq_true z43_2
            have q576 : x5_1 < (l0_0.length : Int) := of_decide_eq_true z43_2
            obtain ⟨ad576, A576_0, c576_0, e576, hx576_0, hl576_0, hi576_0⟩ := at_L7 HR0_0.out x5_1 p576 q576
            obtain rfl : ad572 = ad576 := (by injection e576)
            replace hx576_0 := (HB.out.cell (World.block_lt_of_cell? w _ hx576_0)).trans hx576_0
            have HR576_0 := am_ hi576_0
            have HC576_0 := am_ hl576_0
            clear hi576_0 hl576_0
            replace p576 := eq_true p576
            replace q576 := eq_true q576
            have ea_ := Option.some.inj (hx575_0.symm.trans hx576_0)
            injection ea_ with ea_ en_ ec_
            subst ea_
            subst ec_
            clear en_
            have p577 : 0 ≤ (x6_2 : Int) := of_decide_eq_true z43_2
            have q577 : x6_2 < ((rd_L7 l0_0 x5_1).length : Int) := of_decide_eq_true z43_2
            obtain ⟨ad577, e577, hx577_0, hx577_1, hx577_2⟩ := at_T85 HR576_0.out x6_2 p577 q577
            cases e577
            replace hx577_0 := (HB.out.cell (World.block_lt_of_cell? w _ hx577_0)).trans hx577_0
            replace hx577_1 := (HB.out.cell (World.block_lt_of_cell? w _ hx577_1)).trans hx577_1
            replace hx577_2 := (HB.out.cell (World.block_lt_of_cell? w _ hx577_2)).trans hx577_2
            replace p577 := eq_true p577
            replace q577 := eq_true q577
            go_wp2_with (first | ((with_reducible refine gate_callee (f := 87) rfl ?_); refine goesL_ (some 51) rfl rfl Try.func87 (by kernel_rfl) rfl #[.agg #[.int .i64 ((rd_T85 (rd_L7 l0_0 x5_1) x6_2).f0), .int .i64 ((rd_T85 (rd_L7 l0_0 x5_1) x6_2).f1), .int .i64 ((rd_T85 (rd_L7 l0_0 x5_1) x6_2).f2)]] rfl (by (try simp only [List.map_toArray, List.map_cons, List.map_nil]); first | done | rfl | (simp only [List.length_drop, List.length_take]; rfl)) ?_; (with_reducible refine (spec_l1Reads.calls ((rd_T85 (rd_L7 l0_0 x5_1) x6_2).f0) ((rd_T85 (rd_L7 l0_0 x5_1) x6_2).f1) ((rd_T85 (rd_L7 l0_0 x5_1) x6_2).f2) false _ A18.out).mono ?_); rintro e w29 ⟨rfl, hb⟩; refine ⟨_, rfl, ?_⟩; replace BK571 := am_ (blk_below (bu BK571.out) hb); replace HB := am_ (below_step z43_5 hb); (try clear hb); (try clear hb2); (try clear hk); (try clear hi); have hcz30_0 := cf0 BK571.out; have hfz30_0 := blk_frozen BK571.out 0; have p579 : 0 ≤ (x5_1 : Int) := of_decide_eq_true z43_2; have q579 : x5_1 < (l0_0.length : Int) := of_decide_eq_true z43_2; obtain ⟨ad579, A579_0, c579_0, e579, hx579_0, hl579_0, hi579_0⟩ := at_L7 HR0_0.out x5_1 p579 q579; obtain rfl : ad572 = ad579 := (by injection e579); replace hx579_0 := (HB.out.cell (World.block_lt_of_cell? w _ hx579_0)).trans hx579_0; have HR579_0 := am_ hi579_0; have HC579_0 := am_ hl579_0; clear hi579_0 hl579_0; replace p579 := eq_true p579; replace q579 := eq_true q579; have p580 : 0 ≤ (x6_2 : Int) := of_decide_eq_true z43_2; have q580 : x6_2 < ((rd_L7 l0_0 x5_1).length : Int) := of_decide_eq_true z43_2; obtain ⟨ad580, e580, hx580_0, hx580_1, hx580_2⟩ := at_T85 HR579_0.out x6_2 p580 q580; cases e580; replace hx580_0 := (HB.out.cell (World.block_lt_of_cell? w _ hx580_0)).trans hx580_0; replace hx580_1 := (HB.out.cell (World.block_lt_of_cell? w _ hx580_1)).trans hx580_1; replace hx580_2 := (HB.out.cell (World.block_lt_of_cell? w _ hx580_2)).trans hx580_2; replace p580 := eq_true p580; replace q580 := eq_true q580) | (go_at_call 88; (with_reducible refine (spec_l1Writes.calls ((rd_T85 (rd_L7 l0_0 x5_1) x6_2).f0) ((rd_T85 (rd_L7 l0_0 x5_1) x6_2).f1) ((rd_T85 (rd_L7 l0_0 x5_1) x6_2).f2) false _ A22.out).mono ?_); rintro e w31 ⟨rfl, hb⟩; replace BK571 := am_ (blk_below (bu BK571.out) hb); replace HB := am_ (below_step z43_5 hb); (try clear hb); (try clear hb2); (try clear hk); (try clear hi)))
            go_roundg k2
            case measure => have := HK1.out; have := HK2.out; omega
            case rel => exact ⟨(x4_2), (wrap64 (x6_2 + 1)), z43_1, z43_1, H', ⟨by have := HK1.out; have := HK2.out; omega⟩, ⟨bu BK571.out⟩, ⟨z43_5⟩⟩
           rw [if_neg c17] at H
           exact absurd H (by simp)
          rw [if_neg c16] at H
          have c16b0 : decide (x6_2 < ((rd_L7 l0_0 x5_1).length : Int)) = false := decide_eq_false c16
          clear c16
          have H' := am_ H
          clear H
          have hcz32_0 := cf0 BK571.out
          have hfz32_0 := blk_frozen BK571.out 0
          have p575 : 0 ≤ (x5_1 : Int) := of_decide_eq_true z43_2
          have q575 : x5_1 < (l0_0.length : Int) := of_decide_eq_true z43_2
          obtain ⟨ad575, A575_0, c575_0, e575, hx575_0, hl575_0, hi575_0⟩ := at_L7 HR0_0.out x5_1 p575 q575
          obtain rfl : ad572 = ad575 := (by injection e575)
          replace hx575_0 := (HB.out.cell (World.block_lt_of_cell? w _ hx575_0)).trans hx575_0
          have HR575_0 := am_ hi575_0
          have HC575_0 := am_ hl575_0
          clear hi575_0 hl575_0
          replace p575 := eq_true p575
          replace q575 := eq_true q575
          go_wp2
          go_roundg k2
          case measure => have := HK1.out; have := HK2.out; omega
          case rel => exact ⟨((wrap64 (x3_1 + ((rd_L7 l0_0 x5_1).length : Int)))), (x4_2), (wrap64 (x5_1 + 1)), z43_1, z43_1, z43_1, H', ⟨by have := HK1.out; have := HK2.out; omega⟩, ⟨bu BK571.out⟩, ⟨z43_5⟩⟩
         rw [if_neg c15] at H
         exact absurd H (by simp)
        rw [if_neg c14] at H
        exact absurd H (by simp)
     replace c10 := Bool.eq_false_iff.mpr c10
     subst c10
     have H1 : (some false) = some r := by rw [if_neg (show ¬ (false = true) by decide)] at H; exact H
     clear H
     have H := H1
     clear H1
     obtain rfl := Option.some.inj H
     have hcz33_0 := cf0 BK571.out
     have hfz33_0 := blk_frozen BK571.out 0
     have p572 : 0 ≤ (x5_1 : Int) := of_decide_eq_true z43_2
     have q572 : x5_1 < (l0_0.length : Int) := of_decide_eq_true z43_2
     obtain ⟨ad572, A572_0, c572_0, e572, hx572_0, hl572_0, hi572_0⟩ := at_L7 HR0_0.out x5_1 p572 q572
     cases e572
     replace hx572_0 := (HB.out.cell (World.block_lt_of_cell? w _ hx572_0)).trans hx572_0
     have HR572_0 := am_ hi572_0
     have HC572_0 := am_ hl572_0
     clear hi572_0 hl572_0
     replace p572 := eq_true p572
     replace q572 := eq_true q572
     go_wp2_with (first | ((with_reducible refine gate_callee (f := 93) rfl ?_); refine goesL_ (some 23) rfl rfl Try.func93 (by kernel_rfl) rfl #[.slice A572_0 (rd_L7 l0_0 x5_1).length c572_0] rfl (by (try simp only [List.map_toArray, List.map_cons, List.map_nil]); first | done | rfl | (simp only [List.length_drop, List.length_take]; rfl)) ?_; (with_reducible refine (spec_l1Thread.calls k1 _ _ (rd_L7 l0_0 x5_1) false _ ?side1 ?side2 A9.out).mono ?_); (case side1 => repeat (first | exact (Kd.C_below HR572_0.out HB.out) | (with_reducible refine Kd.C_alloc ?_ _) | (with_reducible refine Kd.C_drewN ?_ _) | (with_reducible refine Kd.C_drew ?_))); (case side2 => exact HC572_0.out); rintro e w34 ⟨rfl, hb⟩; refine ⟨_, rfl, ?_⟩; replace BK571 := am_ (blk_below (bu BK571.out) hb); replace HB := am_ (below_step z43_5 hb); (try clear hb); (try clear hb2); (try clear hk); (try clear hi)))
     go_ret
     exact ⟨z43_3, z43_5⟩
    rw [if_neg c8] at H
    exact absurd H (by simp)
   rw [if_neg c7] at H
   have c7b0 : decide (x5_1 < (l0_0.length : Int)) = false := decide_eq_false c7
   clear c7
   by_cases c35 : x3_1 ≤ 14
   ·rw [if_pos c35] at H
    have c35b0 : decide (x3_1 ≤ 14) = true := decide_eq_true c35
    clear c35
    obtain rfl := Option.some.inj H
    have hcz36_0 := cf0 BK571.out
    have hfz36_0 := blk_frozen BK571.out 0
    go_wp2
    go_ret
    exact ⟨z43_3, z43_5⟩
   rw [if_neg c35] at H
   have c35b0 : decide (x3_1 ≤ 14) = false := decide_eq_false c35
   clear c35
   obtain rfl := Option.some.inj H
   have hcz37_0 := cf0 BK571.out
   have hfz37_0 := blk_frozen BK571.out 0
   go_wp2
   go_ret
   exact ⟨z43_3, z43_5⟩

end Go.Proofs.Ytefkbmhkhpekjaa.PB

namespace Go.Proofs.Ytefkbmhkhpekjaa.PB
open Go.RowKit Go.Proofs.YtefkbmhkhpekjaaW.PrintWords Go.Proofs.YtefkbmhkhpekjaaW.PrintLast Go.Proofs.YtefkbmhkhpekjaaW.PrintMore
attribute [local go_sem] max2_int min2_int max_two min_two max_three min_three max_four min_four   -- for this text's walks alone
open Go.Proofs.YtefkbmhkhpekjaaMine
set_option linter.unusedVariables false
set_option linter.unusedSimpArgs false

theorem z105_1 {p : Prop} (h : p := by first | rfl | (simp; done) | (simp [*]; done)) : p := h
theorem z105_2 {p : Prop} (h : p := by first | (with_reducible assumption) | assumption) : p := h
theorem z105_3 {p : Prop} (h : p := by first | rfl | (simp [errW_none, errW_some] <;> rfl) | (simp [*, errW_none, errW_some] <;> rfl)) : p := h
theorem z105_4 {p : Prop} (h : p := by repeat (first | (with_reducible first | exact HB.out | apply below_alloc | apply pw_below_drewN | apply below_drew1) | exact HB.out)) : p := h
theorem z105_5 {p : Prop} (h : p := by repeat (first | (with_reducible first | exact HB.out | apply below_alloc | apply pw_below_drewN | apply below_drew1 | refine below_set ?_ GE03.out) | exact HB.out)) : p := h
/-! ### spec_ProgReads: function 105 -/
mutual
def spec_ProgReads.l0 : Nat → Int → Int → List (List (S85)) → Option (Int)
  | 0, _, _, _ => none
  | k + 1, x3, x4, x04 => if x4 < (x04.length : Int) then (spec_ProgReads.l1 k x3 x4 0 x04) else (some x3)
def spec_ProgReads.l1 : Nat → Int → Int → Int → List (List (S85)) → Option (Int)
  | 0, _, _, _, _ => none
  | k + 1, x3, x4, x5, x04 => if 0 ≤ x4 then (if x4 < (x04.length : Int) then (if x5 < ((rd_L7 x04 x4).length : Int) then (if 0 ≤ x5 then ((spec_l1Reads.f ((rd_T85 (rd_L7 x04 x4) x5).f0) ((rd_T85 (rd_L7 x04 x4) x5).f1) ((rd_T85 (rd_L7 x04 x4) x5).f2)).bind fun t06 => (if t06 = true then (spec_ProgReads.l1 k (wrap64 (x3 + 1)) x4 (wrap64 (x5 + 1)) x04) else (spec_ProgReads.l1 k x3 x4 (wrap64 (x5 + 1)) x04))) else (none)) else (spec_ProgReads.l0 k x3 (wrap64 (x4 + 1)) x04)) else (none)) else (none)
end
def spec_ProgReads.f (k : Nat) (l0_0 : List (List (S85))) : Option (Int) := (spec_ProgOk.f k l0_0).bind fun t05 => (if t05 = true then (spec_ProgReads.l0 k 0 0 l0_0) else (some (-1)))
set_option maxHeartbeats 8000000 in
set_option maxRecDepth 100000 in
theorem spec_ProgReads.calls (k : Nat) (A0_0 : Option Addr) (c0_0 : Nat) (l0_0 : List (List (S85))) (r : Int) (w : World) (hr0_0 : Kd.C (Kd.slice 85 k85) w A0_0 l0_0.length l0_0) (hc0_0 : l0_0.length ≤ c0_0) (h : spec_ProgReads.f k l0_0 = some r) :
  Calls Try.prog 105 #[.agg #[.slice A0_0 l0_0.length c0_0]] w fun e w' => e = .returned (.int .i64 r) ∧ Below w.heap.size w w' := by
 have hu35 := Try.underlying35
 have hu85 := Try.underlying85
 have HR0_0 := am_ hr0_0
 have HC0_0 := am_ hc0_0
 clear hr0_0 hc0_0
 have HB := am_ (Below.refl w.heap.size w)
 have H : ((spec_ProgOk.f k l0_0).bind fun t05 => (if t05 = true then (spec_ProgReads.l0 k 0 0 l0_0) else (some (-1)))) = some r := h
 clear h
 replace H := Option.bind_eq_some_iff.mp H
 obtain ⟨t05, A20, H⟩ := H
 replace H : (if t05 = true then (spec_ProgReads.l0 k 0 0 l0_0) else (some (-1))) = some r := H
 have A2 := am_ A20
 clear A20
 by_cases c3 : t05 = true
 ·subst c3
  have H1 : (spec_ProgReads.l0 k 0 0 l0_0) = some r := by rw [if_pos rfl] at H; exact H
  clear H
  have H := H1
  clear H1
  have H' := am_ H
  clear H
  go_enter Try.func105, Try.ntmps105
  go_wp2_with (first | ((with_reducible refine gate_dst (N := 1) rfl ?_); refine box_event ?hg (N := 1) ?hd (cs := #[.slice A0_0 l0_0.length c0_0]) (t := 35) ?hr ?_; (case hd => rfl); (case hg => rfl); (case hr => first | (go_simp; done) | (go_simp; rfl)); intro gb03 hg w4 hbox hb; have n0_ := am_ (below_step z105_4 hb); have n1_ := am_ (hbox); have n2_ := am_ (by rw [hg]; exact (below_size z105_4) : w.heap.size ≤ gb03); have n3_ := am_ (by rw [hg]; exact (below_size z105_4) : w.heap.size ≤ gb03); clear HB; have HB := n0_; have BK03 := n1_; have GW03 := n2_; have GE03 := n3_; clear n0_ n1_ n2_ n3_; clear hb hbox hg; have hcz5_0 := cf0 BK03.out; have hfz5_0 := blk_frozen BK03.out 0) | ((with_reducible refine gate_callee (f := 43) rfl ?_); refine goesL_ (some 7) rfl rfl Try.func43 (by kernel_rfl) rfl #[.agg #[.slice A0_0 l0_0.length c0_0]] rfl (by (try simp only [List.map_toArray, List.map_cons, List.map_nil]); first | done | rfl | (simp only [List.length_drop, List.length_take]; rfl)) ?_; (with_reducible refine (spec_ProgOk.calls k _ _ l0_0 true _ ?side1 ?side2 A2.out).mono ?_); (case side1 => repeat (first | exact (Kd.C_below HR0_0.out HB.out) | (with_reducible refine Kd.C_alloc ?_ _) | (with_reducible refine Kd.C_drewN ?_ _) | (with_reducible refine Kd.C_drew ?_))); (case side2 => exact HC0_0.out); rintro e w6 ⟨rfl, hb⟩; refine ⟨_, rfl, ?_⟩; replace BK03 := am_ (blk_below (bu BK03.out) hb); replace HB := am_ (below_step z105_5 hb); (try clear hb); (try clear hb2); (try clear hk); (try clear hi)))
  go_loopg [3, 4] k (fun kq v3 v4 w' => ∃ (x3_1 : Int) (x4_1 : Int), v3 = .int .i64 x3_1 ∧ v4 = .int .i64 x4_1 ∧ Aside0 (spec_ProgReads.l0 kq x3_1 x4_1 l0_0 = some r) ∧ Aside0 (kq ≤ k) ∧ Aside0 (w'.heap[gb03]? = some (.cells #[(.slice A0_0 l0_0.length c0_0)] 35 (0, 0))) ∧ Aside0 (Below w.heap.size w w'))
  case atStart => exact ⟨(0), (0), z105_1, z105_1, H', ⟨Nat.le_refl _⟩, ⟨bu BK03.out⟩, ⟨z105_5⟩⟩
  case round =>
   clear H'
   obtain ⟨x3_1, x4_1, rfl, rfl, HA, HK1, BK03, HB⟩ := hrel
   cases gk with
   | zero => exact absurd HA.out (by simp [spec_ProgReads.l0])
   | succ k1 =>
    have H := HA.out
    clear HA
    simp only [spec_ProgReads.l0] at H
    by_cases c7 : x4_1 < (l0_0.length : Int)
    ·rw [if_pos c7] at H
     have c7b0 : decide (x4_1 < (l0_0.length : Int)) = true := decide_eq_true c7
     clear c7
     have H' := am_ H
     clear H
     have hcz8_0 := cf0 BK03.out
     have hfz8_0 := blk_frozen BK03.out 0
     go_wp2
     go_loopg [3, 5] k1 (fun kq v3 v5 w' => ∃ (x3_2 : Int) (x5_2 : Int), v3 = .int .i64 x3_2 ∧ v5 = .int .i64 x5_2 ∧ Aside0 (spec_ProgReads.l1 kq x3_2 x4_1 x5_2 l0_0 = some r) ∧ Aside0 (kq ≤ k1) ∧ Aside0 (w'.heap[gb03]? = some (.cells #[(.slice A0_0 l0_0.length c0_0)] 35 (0, 0))) ∧ Aside0 (Below w.heap.size w w'))
     case atStart => exact ⟨(x3_1), (0), z105_1, z105_1, H', ⟨Nat.le_refl _⟩, ⟨bu BK03.out⟩, ⟨z105_5⟩⟩
     case round =>
      clear H'
      obtain ⟨x3_2, x5_2, rfl, rfl, HA, HK2, BK03, HB⟩ := hrel
      cases gk with
      | zero => exact absurd HA.out (by simp [spec_ProgReads.l1])
      | succ k2 =>
       have H := HA.out
       clear HA
       simp only [spec_ProgReads.l1] at H
       by_cases c9 : 0 ≤ x4_1
       ·rw [if_pos c9] at H
        have c9b0 : decide (0 ≤ x4_1) = true := decide_eq_true c9
        clear c9
        by_cases c10 : x4_1 < (l0_0.length : Int)
        ·rw [if_pos c10] at H
         have c10b0 : decide (x4_1 < (l0_0.length : Int)) = true := decide_eq_true c10
         clear c10
         by_cases c11 : x5_2 < ((rd_L7 l0_0 x4_1).length : Int)
         ·rw [if_pos c11] at H
          have c11b0 : decide (x5_2 < ((rd_L7 l0_0 x4_1).length : Int)) = true := decide_eq_true c11
          clear c11
          by_cases c12 : 0 ≤ x5_2
          ·rw [if_pos c12] at H
           have c12b0 : decide (0 ≤ x5_2) = true := decide_eq_true c12
           clear c12
           replace H := Option.bind_eq_some_iff.mp H
           obtain ⟨t06, A130, H⟩ := H
           replace H : (if t06 = true then (spec_ProgReads.l1 k2 (wrap64 (x3_2 + 1)) x4_1 (wrap64 (x5_2 + 1)) l0_0) else (spec_ProgReads.l1 k2 x3_2 x4_1 (wrap64 (x5_2 + 1)) l0_0)) = some r := H
           have A13 := am_ A130
           clear A130
           by_cases c14 : t06 = true
           ·subst c14
            have H1 : (spec_ProgReads.l1 k2 (wrap64 (x3_2 + 1)) x4_1 (wrap64 (x5_2 + 1)) l0_0) = some r := by rw [if_pos rfl] at H; exact H
            clear H
            have H := H1
            clear H1
            have H' := am_ H
            clear H
            have hcz15_0 := cf0 BK03.out
            have hfz15_0 := blk_frozen BK03.out 0
            have p00 : 0 ≤ (x4_1 : Int) := of_decide_eq_true z105_2
            have q00 : x4_1 < (l0_0.length : Int) := of_decide_eq_true z105_2
            obtain ⟨ad00, A00_0, c00_0, e00, hx00_0, hl00_0, hi00_0⟩ := at_L7 HR0_0.out x4_1 p00 q00
            cases e00
            replace hx00_0 := (HB.out.cell (World.block_lt_of_cell? w _ hx00_0)).trans hx00_0
            have HR00_0 := am_ hi00_0
            have HC00_0 := am_ hl00_0
            clear hi00_0 hl00_0
            replace p00 := eq_true p00
            replace q00 := eq_true q00
            have p01 : 0 ≤ (x4_1 : Int) := of_decide_eq_true z105_2
            have q01 : x4_1 < (l0_0.length : Int) := of_decide_eq_true z105_2
            obtain ⟨ad01, A01_0, c01_0, e01, hx01_0, hl01_0, hi01_0⟩ := at_L7 HR0_0.out x4_1 p01 q01
            obtain rfl : ad00 = ad01 := (by injection e01)
            replace hx01_0 := (HB.out.cell (World.block_lt_of_cell? w _ hx01_0)).trans hx01_0
            have HR01_0 := am_ hi01_0
            have HC01_0 := am_ hl01_0
            clear hi01_0 hl01_0
            replace p01 := eq_true p01
            replace q01 := eq_true q01
            have ea_ := Option.some.inj (hx00_0.symm.trans hx01_0)
            injection ea_ with ea_ en_ ec_
            subst ea_
            subst ec_
            clear en_
            have p02 : 0 ≤ (x5_2 : Int) := of_decide_eq_true z105_2
            have q02 : x5_2 < ((rd_L7 l0_0 x4_1).length : Int) := of_decide_eq_true z105_2
            obtain ⟨ad02, e02, hx02_0, hx02_1, hx02_2⟩ := at_T85 HR01_0.out x5_2 p02 q02
            cases e02
            replace hx02_0 := (HB.out.cell (World.block_lt_of_cell? w _ hx02_0)).trans hx02_0
            replace hx02_1 := (HB.out.cell (World.block_lt_of_cell? w _ hx02_1)).trans hx02_1
            replace hx02_2 := (HB.out.cell (World.block_lt_of_cell? w _ hx02_2)).trans hx02_2
            replace p02 := eq_true p02
            replace q02 := eq_true q02
            go_wp2_with (first | ((with_reducible refine gate_callee (f := 87) rfl ?_); refine goesL_ (some 34) rfl rfl Try.func87 (by kernel_rfl) rfl #[.agg #[.int .i64 ((rd_T85 (rd_L7 l0_0 x4_1) x5_2).f0), .int .i64 ((rd_T85 (rd_L7 l0_0 x4_1) x5_2).f1), .int .i64 ((rd_T85 (rd_L7 l0_0 x4_1) x5_2).f2)]] rfl (by (try simp only [List.map_toArray, List.map_cons, List.map_nil]); first | done | rfl | (simp only [List.length_drop, List.length_take]; rfl)) ?_; (with_reducible refine (spec_l1Reads.calls ((rd_T85 (rd_L7 l0_0 x4_1) x5_2).f0) ((rd_T85 (rd_L7 l0_0 x4_1) x5_2).f1) ((rd_T85 (rd_L7 l0_0 x4_1) x5_2).f2) true _ A13.out).mono ?_); rintro e w16 ⟨rfl, hb⟩; refine ⟨_, rfl, ?_⟩; replace BK03 := am_ (blk_below (bu BK03.out) hb); replace HB := am_ (below_step z105_5 hb); (try clear hb); (try clear hb2); (try clear hk); (try clear hi)))
            go_roundg k2
            case measure => have := HK1.out; have := HK2.out; omega
            case rel => exact ⟨(wrap64 (x3_2 + 1)), (wrap64 (x5_2 + 1)), z105_1, z105_1, H', ⟨by have := HK1.out; have := HK2.out; omega⟩, ⟨bu BK03.out⟩, ⟨z105_5⟩⟩
           replace c14 := Bool.eq_false_iff.mpr c14
           subst c14
           have H1 : (spec_ProgReads.l1 k2 x3_2 x4_1 (wrap64 (x5_2 + 1)) l0_0) = some r := by rw [if_neg (show ¬ (false = true) by decide)] at H; exact H
           clear H
           have H := H1
           clear H1
           have H' := am_ H
           clear H
           have hcz17_0 := cf0 BK03.out
           have hfz17_0 := blk_frozen BK03.out 0
           have p00 : 0 ≤ (x4_1 : Int) := of_decide_eq_true z105_2
           have q00 : x4_1 < (l0_0.length : Int) := of_decide_eq_true z105_2
           obtain ⟨ad00, A00_0, c00_0, e00, hx00_0, hl00_0, hi00_0⟩ := at_L7 HR0_0.out x4_1 p00 q00
           cases e00
           replace hx00_0 := (HB.out.cell (World.block_lt_of_cell? w _ hx00_0)).trans hx00_0
           have HR00_0 := am_ hi00_0
           have HC00_0 := am_ hl00_0
           clear hi00_0 hl00_0
           replace p00 := eq_true p00
           replace q00 := eq_true q00
           have p01 : 0 ≤ (x4_1 : Int) := of_decide_eq_true z105_2
           have q01 : x4_1 < (l0_0.length : Int) := of_decide_eq_true z105_2
           obtain ⟨ad01, A01_0, c01_0, e01, hx01_0, hl01_0, hi01_0⟩ := at_L7 HR0_0.out x4_1 p01 q01
           obtain rfl : ad00 = ad01 := (by injection e01)
           replace hx01_0 := (HB.out.cell (World.block_lt_of_cell? w _ hx01_0)).trans hx01_0
           have HR01_0 := am_ hi01_0
           have HC01_0 := am_ hl01_0
           clear hi01_0 hl01_0
           replace p01 := eq_true p01
           replace q01 := eq_true q01
           have ea_ := Option.some.inj (hx00_0.symm.trans hx01_0)
           injection ea_ with ea_ en_ ec_
           subst ea_
           subst ec_
           clear en_
           have p02 : 0 ≤ (x5_2 : Int) := of_decide_eq_true z105_2
           have q02 : x5_2 < ((rd_L7 l0_0 x4_1).length : Int) := of_decide_eq_true z105_2
           obtain ⟨ad02, e02, hx02_0, hx02_1, hx02_2⟩ := at_T85 HR01_0.out x5_2 p02 q02
           cases e02
           replace hx02_0 := (HB.out.cell (World.block_lt_of_cell? w _ hx02_0)).trans hx02_0
           replace hx02_1 := (HB.out.cell (World.block_lt_of_cell? w _ hx02_1)).trans hx02_1
           replace hx02_2 := (HB.out.cell (World.block_lt_of_cell? w _ hx02_2)).trans hx02_2
           replace p02 := eq_true p02
           replace q02 := eq_true q02
           go_wp2_with (first | ((with_reducible refine gate_callee (f := 87) rfl ?_); refine goesL_ (some 34) rfl rfl Try.func87 (by kernel_rfl) rfl #[.agg #[.int .i64 ((rd_T85 (rd_L7 l0_0 x4_1) x5_2).f0), .int .i64 ((rd_T85 (rd_L7 l0_0 x4_1) x5_2).f1), .int .i64 ((rd_T85 (rd_L7 l0_0 x4_1) x5_2).f2)]] rfl (by (try simp only [List.map_toArray, List.map_cons, List.map_nil]); first | done | rfl | (simp only [List.length_drop, List.length_take]; rfl)) ?_; (with_reducible refine (spec_l1Reads.calls ((rd_T85 (rd_L7 l0_0 x4_1) x5_2).f0) ((rd_T85 (rd_L7 l0_0 x4_1) x5_2).f1) ((rd_T85 (rd_L7 l0_0 x4_1) x5_2).f2) false _ A13.out).mono ?_); rintro e w18 ⟨rfl, hb⟩; refine ⟨_, rfl, ?_⟩; replace BK03 := am_ (blk_below (bu BK03.out) hb); replace HB := am_ (below_step z105_5 hb); (try clear hb); (try clear hb2); (try clear hk); (try clear hi)))
           go_roundg k2
           case measure => have := HK1.out; have := HK2.out; omega
           case rel => exact ⟨(x3_2), (wrap64 (x5_2 + 1)), z105_1, z105_1, H', ⟨by have := HK1.out; have := HK2.out; omega⟩, ⟨bu BK03.out⟩, ⟨z105_5⟩⟩
          rw [if_neg c12] at H
          exact absurd H (by simp)
         rw [if_neg c11] at H
         have c11b0 : decide (x5_2 < ((rd_L7 l0_0 x4_1).length : Int)) = false := decide_eq_false c11
         clear c11
         have H' := am_ H
         clear H
         have hcz19_0 := cf0 BK03.out
         have hfz19_0 := blk_frozen BK03.out 0
         have p00 : 0 ≤ (x4_1 : Int) := of_decide_eq_true z105_2
         have q00 : x4_1 < (l0_0.length : Int) := of_decide_eq_true z105_2
         obtain ⟨ad00, A00_0, c00_0, e00, hx00_0, hl00_0, hi00_0⟩ := at_L7 HR0_0.out x4_1 p00 q00
         cases e00
         replace hx00_0 := (HB.out.cell (World.block_lt_of_cell? w _ hx00_0)).trans hx00_0
         have HR00_0 := am_ hi00_0
         have HC00_0 := am_ hl00_0
         clear hi00_0 hl00_0
         replace p00 := eq_true p00
         replace q00 := eq_true q00
         go_wp2
         go_roundg k2
         case measure => have := HK1.out; have := HK2.out; omega
         case rel => exact ⟨(x3_2), (wrap64 (x4_1 + 1)), z105_1, z105_1, H', ⟨by have := HK1.out; have := HK2.out; omega⟩, ⟨bu BK03.out⟩, ⟨z105_5⟩⟩
        rw [if_neg c10] at H
        exact absurd H (by simp)
       rw [if_neg c9] at H
       exact absurd H (by simp)
    rw [if_neg c7] at H
    have c7b0 : decide (x4_1 < (l0_0.length : Int)) = false := decide_eq_false c7
    clear c7
    obtain rfl := Option.some.inj H
    have hcz20_0 := cf0 BK03.out
    have hfz20_0 := blk_frozen BK03.out 0
    go_wp2
    go_ret
    exact ⟨z105_3, z105_5⟩
 replace c3 := Bool.eq_false_iff.mpr c3
 subst c3
 have H1 : (some (-1)) = some r := by rw [if_neg (show ¬ (false = true) by decide)] at H; exact H
 clear H
 have H := H1
 clear H1
 obtain rfl := Option.some.inj H
 go_enter Try.func105, Try.ntmps105
 go_wp2_with (first | ((with_reducible refine gate_dst (N := 1) rfl ?_); refine box_event ?hg (N := 1) ?hd (cs := #[.slice A0_0 l0_0.length c0_0]) (t := 35) ?hr ?_; (case hd => rfl); (case hg => rfl); (case hr => first | (go_simp; done) | (go_simp; rfl)); intro gb03 hg w21 hbox hb; have n0_ := am_ (below_step z105_4 hb); have n1_ := am_ (hbox); have n2_ := am_ (by rw [hg]; exact (below_size z105_4) : w.heap.size ≤ gb03); have n3_ := am_ (by rw [hg]; exact (below_size z105_4) : w.heap.size ≤ gb03); clear HB; have HB := n0_; have BK03 := n1_; have GW03 := n2_; have GE03 := n3_; clear n0_ n1_ n2_ n3_; clear hb hbox hg; have hcz22_0 := cf0 BK03.out; have hfz22_0 := blk_frozen BK03.out 0) | ((with_reducible refine gate_callee (f := 43) rfl ?_); refine goesL_ (some 7) rfl rfl Try.func43 (by kernel_rfl) rfl #[.agg #[.slice A0_0 l0_0.length c0_0]] rfl (by (try simp only [List.map_toArray, List.map_cons, List.map_nil]); first | done | rfl | (simp only [List.length_drop, List.length_take]; rfl)) ?_; (with_reducible refine (spec_ProgOk.calls k _ _ l0_0 false _ ?side1 ?side2 A2.out).mono ?_); (case side1 => repeat (first | exact (Kd.C_below HR0_0.out HB.out) | (with_reducible refine Kd.C_alloc ?_ _) | (with_reducible refine Kd.C_drewN ?_ _) | (with_reducible refine Kd.C_drew ?_))); (case side2 => exact HC0_0.out); rintro e w23 ⟨rfl, hb⟩; refine ⟨_, rfl, ?_⟩; replace BK03 := am_ (blk_below (bu BK03.out) hb); replace HB := am_ (below_step z105_5 hb); (try clear hb); (try clear hb2); (try clear hk); (try clear hi)))
 go_ret
 exact ⟨z105_3, z105_5⟩

end Go.Proofs.Ytefkbmhkhpekjaa.PB

namespace Go.Proofs.Ytefkbmhkhpekjaa.PB
open Go.RowKit Go.Proofs.YtefkbmhkhpekjaaW.PrintWords Go.Proofs.YtefkbmhkhpekjaaW.PrintLast Go.Proofs.YtefkbmhkhpekjaaW.PrintMore
attribute [local go_sem] max2_int min2_int max_two min_two max_three min_three max_four min_four   -- for this text's walks alone
open Go.Proofs.YtefkbmhkhpekjaaMine
set_option linter.unusedVariables false
set_option linter.unusedSimpArgs false

theorem z128_1 {p : Prop} (h : p := by first | rfl | (simp; done) | (simp [*]; done)) : p := h
theorem z128_2 {p : Prop} (h : p := by first | (with_reducible assumption) | assumption) : p := h
theorem z128_3 {p : Prop} (h : p := by repeat (first | exact Drawn0.refl _ | apply Drawn0.step)) : p := h
/-! ### spec_l2Vals: function 128 -/
def spec_l2Vals.l0 : Nat → List Int → Int → Option (Bool)
  | 0, _, _ => none
  | k + 1, x0, x3 => if x3 < (x0.length : Int) then (if 0 ≤ x3 then ((spec_l6In.f (rd x0 x3) 0 3).bind fun t01 => (if t01 = true then (spec_l2Vals.l0 k x0 (wrap64 (x3 + 1))) else (some false))) else (none)) else (some true)
def spec_l2Vals.f (k : Nat) (l0 : List Int) : Option (Bool) := spec_l2Vals.l0 k l0 0
set_option maxHeartbeats 8000000 in
set_option maxRecDepth 100000 in
theorem spec_l2Vals.calls (k : Nat) (A0 : Option Addr) (c0 : Nat) (l0 : List Int) (r : Bool) (w : World) (hr0 : Kd.C (Kd.int .i64) w A0 l0.length l0) (hc0 : l0.length ≤ c0) (h : spec_l2Vals.f k l0 = some r) :
  Calls Try.prog 128 #[.slice A0 l0.length c0] w fun e w' => e = .returned (.bool r) ∧ Drawn0 w w' := by
 have HR0 := am_ hr0
 have HC0 := am_ hc0
 clear hr0 hc0
 have H : (spec_l2Vals.l0 k l0 0) = some r := h
 clear h
 have H' := am_ H
 clear H
 go_enter Try.func128, Try.ntmps128
 go_wp2
 go_loopg [3] k (fun kq v3 w' => ∃ (x3_1 : Int), v3 = .int .i64 x3_1 ∧ Aside0 (spec_l2Vals.l0 kq l0 x3_1 = some r) ∧ Aside0 (kq ≤ k) ∧ Drawn0 w w')
 case atStart => exact ⟨(0), z128_1, H', ⟨Nat.le_refl _⟩, z128_3⟩
 case round =>
  clear H'
  obtain ⟨x3_1, rfl, HA, HK1, ⟨m1, rfl⟩⟩ := hrel
  cases gk with
  | zero => exact absurd HA.out (by simp [spec_l2Vals.l0])
  | succ k1 =>
   have H := HA.out
   clear HA
   simp only [spec_l2Vals.l0] at H
   by_cases c2 : x3_1 < (l0.length : Int)
   ·rw [if_pos c2] at H
    have c2b0 : decide (x3_1 < (l0.length : Int)) = true := decide_eq_true c2
    clear c2
    by_cases c3 : 0 ≤ x3_1
    ·rw [if_pos c3] at H
     have c3b0 : decide (0 ≤ x3_1) = true := decide_eq_true c3
     clear c3
     replace H := Option.bind_eq_some_iff.mp H
     obtain ⟨t01, A40, H⟩ := H
     replace H : (if t01 = true then (spec_l2Vals.l0 k1 l0 (wrap64 (x3_1 + 1))) else (some false)) = some r := H
     have A4 := am_ A40
     clear A40
     by_cases c5 : t01 = true
     ·subst c5
      have H1 : (spec_l2Vals.l0 k1 l0 (wrap64 (x3_1 + 1))) = some r := by rw [if_pos rfl] at H; exact H
      clear H
      have H := H1
      clear H1
      have H' := am_ H
      clear H
      have p00 : 0 ≤ (x3_1 : Int) := of_decide_eq_true z128_2
      have q00 : x3_1 < (l0.length : Int) := of_decide_eq_true z128_2
      obtain ⟨ad00, e00, hx00_0⟩ := Kd.at_int HR0.out x3_1 p00 q00
      cases e00
      replace p00 := eq_true p00
      replace q00 := eq_true q00
      go_wp2_with (first | ((with_reducible refine gate_callee (f := 72) rfl ?_); refine goesL_ (some 14) rfl rfl Try.func72 (by kernel_rfl) rfl #[.int .i64 (rd l0 x3_1), .int .i64 0, .int .i64 3] rfl (by (try simp only [List.map_toArray, List.map_cons, List.map_nil]); first | done | rfl | (simp only [List.length_drop, List.length_take]; rfl)) ?_; (with_reducible refine (spec_l6In.calls (rd l0 x3_1) 0 3 true _ A4.out).mono ?_); rintro e w' ⟨rfl, ⟨nd, rfl⟩⟩; refine ⟨_, rfl, ?_⟩))
      go_roundg k1
      case measure => have := HK1.out; omega
      case rel => exact ⟨(wrap64 (x3_1 + 1)), z128_1, H', ⟨by have := HK1.out; omega⟩, z128_3⟩
     replace c5 := Bool.eq_false_iff.mpr c5
     subst c5
     have H1 : (some false) = some r := by rw [if_neg (show ¬ (false = true) by decide)] at H; exact H
     clear H
     have H := H1
     clear H1
     obtain rfl := Option.some.inj H
     have p00 : 0 ≤ (x3_1 : Int) := of_decide_eq_true z128_2
     have q00 : x3_1 < (l0.length : Int) := of_decide_eq_true z128_2
     obtain ⟨ad00, e00, hx00_0⟩ := Kd.at_int HR0.out x3_1 p00 q00
     cases e00
     replace p00 := eq_true p00
     replace q00 := eq_true q00
     go_wp2_with (first | ((with_reducible refine gate_callee (f := 72) rfl ?_); refine goesL_ (some 14) rfl rfl Try.func72 (by kernel_rfl) rfl #[.int .i64 (rd l0 x3_1), .int .i64 0, .int .i64 3] rfl (by (try simp only [List.map_toArray, List.map_cons, List.map_nil]); first | done | rfl | (simp only [List.length_drop, List.length_take]; rfl)) ?_; (with_reducible refine (spec_l6In.calls (rd l0 x3_1) 0 3 false _ A4.out).mono ?_); rintro e w' ⟨rfl, ⟨nd, rfl⟩⟩; refine ⟨_, rfl, ?_⟩))
     go_ret
     exact ⟨z128_1, z128_3⟩
    rw [if_neg c3] at H
    exact absurd H (by simp)
   rw [if_neg c2] at H
   have c2b0 : decide (x3_1 < (l0.length : Int)) = false := decide_eq_false c2
   clear c2
   obtain rfl := Option.some.inj H
   go_wp2
   go_ret
   exact ⟨z128_1, z128_3⟩

end Go.Proofs.Ytefkbmhkhpekjaa.PB

namespace Go.Proofs.Ytefkbmhkhpekjaa.PB
open Go.RowKit Go.Proofs.YtefkbmhkhpekjaaW.PrintWords Go.Proofs.YtefkbmhkhpekjaaW.PrintLast Go.Proofs.YtefkbmhkhpekjaaW.PrintMore
attribute [local go_sem] max2_int min2_int max_two min_two max_three min_three max_four min_four   -- for this text's walks alone
open Go.Proofs.YtefkbmhkhpekjaaMine
set_option linter.unusedVariables false
set_option linter.unusedSimpArgs false

/-! ### spec_SeenOk: function 104 -/
def spec_SeenOk.T1 : Bool × List (List Nat × List Nat) := (true, [([], []), ([0], [0]), ([1, 1], [1]), ([2], [2]), ([3, 2], [2, 3]), ([4, 2], [2, 4]), ([2], [2]), ([6, 2, 2], [2, 6]), ([5, 7, 2], [2, 5, 7]), ([2, 8], [2, 8]), ([9, 7], [9]), ([10], [10]), ([11, 10], [10, 11]), ([12, 10], [10, 12]), ([13, 10], [10, 13]), ([10, 14], [10, 14]), ([15, 10], [15]), ([16], [16]), ([17, 16], [16, 17]), ([18, 16, 16], [16, 18]), ([16, 19], [16, 19]), ([20, 19], [20]), ([21], [21]), ([22, 21], [21, 22]), ([23, 21, 21], [21, 23]), ([21, 24], [21, 24]), ([25, 24, 0, 1, 2, 3, 4, 5, 6, 7, 8, 9, 10, 11, 12, 13, 14, 15, 16, 17, 18, 19, 20, 21, 22, 23, 24, 25], [25])])
def spec_SeenOk.B1 : List Nat := [0, 1, 3, 7, 15, 31, 7, 71, 255, 511, 1023, 2047, 4095, 8191, 16383, 32767, 65535, 131071, 262143, 524287, 1048575, 2097151, 4194303, 8388607, 16777215, 33554431, 67108863]
theorem spec_SeenOk.tab1 : rtab .any (opsOf Try.f104 1) = spec_SeenOk.T1 := by kernel_rfl
theorem spec_SeenOk.bits1 : waitsOk spec_SeenOk.T1.2 spec_SeenOk.B1 = true := by kernel_rfl
def spec_SeenOk.f (k : Nat) (l0_0 : List (List S85)) (l1_0 : List Int) (l1_1 : List Int) : Option Bool := (spec_ProgOk.f k l0_0).bind fun a => (if a = true then ((spec_ProgReads.f k l0_0).bind fun c => (if (l1_0.length : Int) = c then (if (l1_1.length : Int) = 3 then ((spec_l2Vals.f k l1_0).bind fun d => (if d = true then ((spec_l2Vals.f k l1_1).bind fun e => (some e)) else (some false))) else (some false)) else (some false))) else (some false))
theorem spec_SeenOk.ways {k : Nat} {p : List (List S85)} {sr sl : List Int} {r : Bool} (h : spec_SeenOk.f k p sr sl = some r) : ∃ (b0 b1 b2 b3 : Bool) (m : Int), spec_ProgOk.f k p = some b0 ∧ (b0 = true → spec_ProgReads.f k p = some m ∧ b1 = ((sr.length : Int) == m)) ∧ (b0 = false → b1 = false) ∧ (b1 = true → b2 = ((sl.length : Int) == 3)) ∧ (b1 = false → b2 = false) ∧ (b2 = true → spec_l2Vals.f k sr = some b3) ∧ (b2 = false → b3 = false) ∧ (b3 = true → spec_l2Vals.f k sl = some r) ∧ (b3 = false → r = false) := by
  unfold spec_SeenOk.f at h
  obtain ⟨a, ea, h⟩ := Option.bind_eq_some_iff.mp h
  cases a with
  | false =>
    rw [if_neg (by simp)] at h
    obtain rfl := Option.some.inj h
    exact ⟨false, false, false, false, 0, ea, by simp, fun _ => rfl, by simp, fun _ => rfl, by simp, fun _ => rfl, by simp, fun _ => rfl⟩
  | true =>
    rw [if_pos rfl] at h
    obtain ⟨c, ec, h⟩ := Option.bind_eq_some_iff.mp h
    by_cases h1 : (sr.length : Int) = c
    rotate_left
    · rw [if_neg h1] at h
      obtain rfl := Option.some.inj h
      exact ⟨true, false, false, false, c, ea, fun _ => ⟨ec, (beq_eq_false_iff_ne.mpr h1).symm⟩, by simp, by simp, fun _ => rfl, by simp, fun _ => rfl, by simp, fun _ => rfl⟩
    rw [if_pos h1] at h
    by_cases h2 : (sl.length : Int) = 3
    rotate_left
    · rw [if_neg h2] at h
      obtain rfl := Option.some.inj h
      exact ⟨true, true, false, false, c, ea, fun _ => ⟨ec, (beq_iff_eq.mpr h1).symm⟩, by simp, fun _ => (beq_eq_false_iff_ne.mpr h2).symm, by simp, by simp, fun _ => rfl, by simp, fun _ => rfl⟩
    rw [if_pos h2] at h
    obtain ⟨d, ed, h⟩ := Option.bind_eq_some_iff.mp h
    cases d with
    | false =>
      rw [if_neg (by simp)] at h
      obtain rfl := Option.some.inj h
      exact ⟨true, true, true, false, c, ea, fun _ => ⟨ec, (beq_iff_eq.mpr h1).symm⟩, by simp, fun _ => (beq_iff_eq.mpr h2).symm, by simp, fun _ => ed, by simp, by simp, fun _ => rfl⟩
    | true =>
      rw [if_pos rfl] at h
      obtain ⟨e, ee, h⟩ := Option.bind_eq_some_iff.mp h
      obtain rfl := Option.some.inj h
      exact ⟨true, true, true, true, c, ea, fun _ => ⟨ec, (beq_iff_eq.mpr h1).symm⟩, by simp, fun _ => (beq_iff_eq.mpr h2).symm, by simp, fun _ => ed, by simp, fun _ => ee, by simp⟩
set_option maxRecDepth 100000 in
set_option maxHeartbeats 8000000 in
theorem spec_SeenOk.calls (k : Nat) (A0_0 : Option Addr) (c0_0 : Nat) (l0_0 : List (List S85)) (A1_0 : Option Addr) (c1_0 : Nat) (l1_0 : List Int) (A1_1 : Option Addr) (c1_1 : Nat) (l1_1 : List Int) (r : Bool) (w : World) (hr0_0 : Kd.C (Kd.slice 85 k85) w A0_0 l0_0.length l0_0) (hc0_0 : l0_0.length ≤ c0_0) (hr1_0 : Kd.C (Kd.int .i64) w A1_0 l1_0.length l1_0) (hc1_0 : l1_0.length ≤ c1_0) (hr1_1 : Kd.C (Kd.int .i64) w A1_1 l1_1.length l1_1) (hc1_1 : l1_1.length ≤ c1_1) (h : spec_SeenOk.f k l0_0 l1_0 l1_1 = some r) :
  Calls Try.prog 104 #[.agg #[.slice A0_0 l0_0.length c0_0], .agg #[.slice A1_0 l1_0.length c1_0, .slice A1_1 l1_1.length c1_1]] w fun e w' => e = .returned (.bool r) ∧ Below w.heap.size w w' := by
 obtain ⟨b0, b1, b2, b3, m, h0, h1, h1', h2, h2', h3, h3', h4, h4'⟩ := spec_SeenOk.ways h
 have C0 := am_ hr0_0
 have L0 := am_ hc0_0
 have C1 := am_ hr1_0
 have L1 := am_ hc1_0
 have C2 := am_ hr1_1
 have L2 := am_ hc1_1
 have G0 := am_ h0
 have G1 := am_ h1
 have G1f := am_ h1'
 have G2 := am_ h2
 have G2f := am_ h2'
 have G3 := am_ h3
 have G3f := am_ h3'
 have G4 := am_ h4
 have G4f := am_ h4'
 clear hr0_0 hc0_0 hr1_0 hc1_0 hr1_1 hc1_1 h0 h1 h1' h2 h2' h3 h3' h4 h4' h
 have hx0 := blk_alloc (heap_alloc_new w (Obj.cells #[Value.slice A0_0 l0_0.length c0_0] 35)) (Obj.cells #[Value.slice A1_0 l1_0.length c1_0, Value.slice A1_1 l1_1.length c1_1] 24)
 have hx1 := heap_alloc_new (w.alloc (Obj.cells #[Value.slice A0_0 l0_0.length c0_0] 35)) (Obj.cells #[Value.slice A1_0 l1_0.length c1_0, Value.slice A1_1 l1_1.length c1_1] 24)
 rw [World.size_alloc] at hx1
 have hB := below_alloc (below_alloc (Below.refl w.heap.size w) (Obj.cells #[Value.slice A0_0 l0_0.length c0_0] 35)) (Obj.cells #[Value.slice A1_0 l1_0.length c1_0, Value.slice A1_1 l1_1.length c1_1] 24)
 have BP := am_ (blk_drew hx0)
 have BS := am_ (blk_drew hx1)
 have HB := am_ (below_drew hB)
 clear hx0 hx1 hB
 go_enter Try.func104, Try.ntmps104
 go_wp2_with fail
 refine start_ (n := 27) (S := fun w' => w'.cell? ⟨w.heap.size, 0, none⟩ = some (.slice A0_0 l0_0.length c0_0) ∧ w'.cell? ⟨w.heap.size + 1, 0, none⟩ = some (.slice A1_0 l1_0.length c1_0) ∧ w'.cell? ⟨w.heap.size + 1, 1, none⟩ = some (.slice A1_1 l1_1.length c1_1)) (ds := []) #[false, false, false, false, false, false, false, false, false, false, false, false, false, false, false, false, false, false, false, false, false, false, false, false, false, false, false] (by kernel_rfl) rfl rfl ⟨(blk_cell BP.out 0).trans rfl, (blk_cell BS.out 0).trans rfl, (blk_cell BS.out 1).trans rfl⟩ (fun hHeld => ?_)
 refine with_tabW spec_SeenOk.tab1 spec_SeenOk.bits1 (fun HT_ HW_ => ?_)
 generalize ((w.alloc (Obj.cells #[Value.slice A0_0 l0_0.length c0_0] 35)).alloc (Obj.cells #[Value.slice A1_0 l1_0.length c1_0, Value.slice A1_1 l1_1.length c1_1] 24)).drew = X0 at *
 refine take_ (i := 0) (N := some 5) (v := ?_) (a' := ?_) #[true, false, false, false, false, false, false, false, false, false, false, false, false, false, false, false, false, false, false, false, false, false, false, false, false, false, false] rfl rfl (take_ofW HT_.out HW_.out (by kernel_rfl)) (fun _ _ _ h => h) (Or.inl ⟨by rfl, ?_⟩) hHeld ?_ ?_
 rotate_left
 ·intro w' s0
  have s1 := s0.1
  go_simp
  with_reducible rfl
 rotate_left
 ·simp only [Act.put, List.setIfInBounds_toArray, List.set_cons_zero, List.set_cons_succ, i64_w, i32_w]
  rfl
 refine one_ (i := 1) (N := some 6) #[true, true, false, false, false, false, false, false, false, false, false, false, false, false, false, false, false, false, false, false, false, false, false, false, false, false, false] rfl rfl (one_of HT_.out (by kernel_rfl)) (by decide) (fun K hK => ?_)
 refine goes_ Try.func43 (by kernel_rfl) rfl #[.agg #[.slice A0_0 l0_0.length c0_0]] (by rfl) rfl rfl (by (try simp only [List.map_toArray, List.map_cons, List.map_nil]); first | done | rfl) ?_
 with_reducible refine (spec_ProgOk.calls k _ _ l0_0 b0 _ (Kd.C_below C0.out HB.out) L0.out G0.out).mono ?_
 rintro e Y0 ⟨rfl, hb⟩
 refine ⟨_, rfl, ?_⟩
 have BPY0 := am_ (blk_below BP.out hb)
 have BSY0 := am_ (blk_below BS.out hb)
 have HBY0 := am_ (below_then HB.out HB.out.size hb)
 clear hb BP BS HB
 refine hK.out _ _ ⟨(blk_cell BPY0.out 0).trans rfl, (blk_cell BSY0.out 0).trans rfl, (blk_cell BSY0.out 1).trans rfl⟩ (fun hHeld => ?_)
 clear hK K
 refine norm_ (a' := ?_) ?_ ?_
 rotate_left
 ·show Act.put _ (some 6) _ = _
  simp only [Act.put, List.setIfInBounds_toArray, List.set_cons_zero, List.set_cons_succ, i64_w, i32_w]
  rfl
 refine pure_ (i := 2) (N := some 7) (v := ?_) (a' := ?_) #[true, true, true, false, false, false, false, false, false, false, false, false, false, false, false, false, false, false, false, false, false, false, false, false, false, false, false] rfl rfl (any_of HT_.out (by kernel_rfl)) (fun _ _ _ h => h) (Or.inl ⟨by rfl, ?_⟩) ?_ ?_
 rotate_left
 ·intro w'
  go_simp
  with_reducible rfl
 rotate_left
 ·simp only [Act.put, List.setIfInBounds_toArray, List.set_cons_zero, List.set_cons_succ, i64_w, i32_w]
  rfl
 refine join_ (σ := Value × Value × Value × Value × Value × Value) 17 #[true, true, true, true, true, true, true, true, true, true, false, false, false, false, false, false, false, false, false, false, false, false, false, false, false, false, false] (fun s_ => [(8, s_.1), (9, s_.2.1), (10, s_.2.2.1), (11, s_.2.2.2.1), (12, s_.2.2.2.2.1), (13, s_.2.2.2.2.2), (14, .bool b1)]) (fun s_ w' => (w'.cell? ⟨w.heap.size, 0, none⟩ = some (.slice A0_0 l0_0.length c0_0) ∧ w'.cell? ⟨w.heap.size + 1, 0, none⟩ = some (.slice A1_0 l1_0.length c1_0) ∧ w'.cell? ⟨w.heap.size + 1, 1, none⟩ = some (.slice A1_1 l1_1.length c1_1)) ∧ w'.heap[w.heap.size]? = some (Obj.cells #[Value.slice A0_0 l0_0.length c0_0] 35) ∧ w'.heap[w.heap.size + 1]? = some (Obj.cells #[Value.slice A1_0 l1_0.length c1_0, Value.slice A1_1 l1_1.length c1_1] 24) ∧ Below w.heap.size w w') ?_ ?_
 rotate_left
 ·intro hCont
  rcases b0 with _ | _
  ·have e2 := G1f.out rfl
   subst e2
   refine pure_ (i := 3) (N := some 8) (v := undef) (a' := ?_) #[true, true, true, true, false, false, false, false, false, false, false, false, false, false, false, false, false, false, false, false, false, false, false, false, false, false, false] rfl rfl (any_of HT_.out (by kernel_rfl)) (fun _ _ _ h => h) (Or.inr ⟨by rfl, rfl⟩) ?_ ?_
   rotate_left
   ·simp only [Act.put, List.setIfInBounds_toArray, List.set_cons_zero, List.set_cons_succ, i64_w, i32_w]
    rfl
   refine pure_ (i := 4) (N := some 9) (v := undef) (a' := ?_) #[true, true, true, true, true, false, false, false, false, false, false, false, false, false, false, false, false, false, false, false, false, false, false, false, false, false, false] rfl rfl (any_of HT_.out (by kernel_rfl)) (fun _ _ _ h => h) (Or.inr ⟨by rfl, rfl⟩) ?_ ?_
   rotate_left
   ·simp only [Act.put, List.setIfInBounds_toArray, List.set_cons_zero, List.set_cons_succ, i64_w, i32_w]
    rfl
   refine pure_ (i := 5) (N := some 10) (v := undef) (a' := ?_) #[true, true, true, true, true, true, false, false, false, false, false, false, false, false, false, false, false, false, false, false, false, false, false, false, false, false, false] rfl rfl (any_of HT_.out (by kernel_rfl)) (fun _ _ _ h => h) (Or.inr ⟨by rfl, rfl⟩) ?_ ?_
   rotate_left
   ·simp only [Act.put, List.setIfInBounds_toArray, List.set_cons_zero, List.set_cons_succ, i64_w, i32_w]
    rfl
   refine pure_ (i := 6) (N := some 11) (v := undef) (a' := ?_) #[true, true, true, true, true, true, true, false, false, false, false, false, false, false, false, false, false, false, false, false, false, false, false, false, false, false, false] rfl rfl (any_of HT_.out (by kernel_rfl)) (fun _ _ _ h => h) (Or.inr ⟨by rfl, rfl⟩) ?_ ?_
   rotate_left
   ·simp only [Act.put, List.setIfInBounds_toArray, List.set_cons_zero, List.set_cons_succ, i64_w, i32_w]
    rfl
   refine pure_ (i := 7) (N := some 12) (v := undef) (a' := ?_) #[true, true, true, true, true, true, true, true, false, false, false, false, false, false, false, false, false, false, false, false, false, false, false, false, false, false, false] rfl rfl (any_of HT_.out (by kernel_rfl)) (fun _ _ _ h => h) (Or.inr ⟨by rfl, rfl⟩) ?_ ?_
   rotate_left
   ·simp only [Act.put, List.setIfInBounds_toArray, List.set_cons_zero, List.set_cons_succ, i64_w, i32_w]
    rfl
   refine pure_ (i := 8) (N := some 13) (v := undef) (a' := ?_) #[true, true, true, true, true, true, true, true, true, false, false, false, false, false, false, false, false, false, false, false, false, false, false, false, false, false, false] rfl rfl (any_of HT_.out (by kernel_rfl)) (fun _ _ _ h => h) (Or.inr ⟨by rfl, rfl⟩) ?_ ?_
   rotate_left
   ·simp only [Act.put, List.setIfInBounds_toArray, List.set_cons_zero, List.set_cons_succ, i64_w, i32_w]
    rfl
   refine pure_ (i := 9) (N := some 14) (v := ?_) (a' := ?_) #[true, true, true, true, true, true, true, true, true, true, false, false, false, false, false, false, false, false, false, false, false, false, false, false, false, false, false] rfl rfl (any_of HT_.out (by kernel_rfl)) (fun _ _ _ h => h) (Or.inl ⟨by rfl, ?_⟩) ?_ ?_
   rotate_left
   ·intro w'
    go_simp
    with_reducible rfl
   rotate_left
   ·simp only [Act.put, List.setIfInBounds_toArray, List.set_cons_zero, List.set_cons_succ, i64_w, i32_w]
    rfl
   have zz := hCont (undef, undef, undef, undef, undef, undef) _ ⟨⟨(blk_cell BPY0.out 0).trans rfl, (blk_cell BSY0.out 0).trans rfl, (blk_cell BSY0.out 1).trans rfl⟩, BPY0.out, BSY0.out, HBY0.out⟩
   simp only [putAll, Act.put, List.setIfInBounds_toArray, List.set_cons_zero, List.set_cons_succ] at zz
   exact zz
  obtain ⟨e1, e2⟩ := G1.out rfl
  subst e2
  have E1 := am_ e1
  clear e1
  refine pure_ (i := 3) (N := some 8) (v := ?_) (a' := ?_) #[true, true, true, true, false, false, false, false, false, false, false, false, false, false, false, false, false, false, false, false, false, false, false, false, false, false, false] rfl rfl (any_of HT_.out (by kernel_rfl)) (fun _ _ _ h => h) (Or.inl ⟨by rfl, ?_⟩) ?_ ?_
  rotate_left
  ·intro w'
   go_simp
   with_reducible rfl
  rotate_left
  ·simp only [Act.put, List.setIfInBounds_toArray, List.set_cons_zero, List.set_cons_succ, i64_w, i32_w]
   rfl
  refine take_ (i := 4) (N := some 9) (v := ?_) (a' := ?_) #[true, true, true, true, true, false, false, false, false, false, false, false, false, false, false, false, false, false, false, false, false, false, false, false, false, false, false] rfl rfl (take_ofW HT_.out HW_.out (by kernel_rfl)) (fun _ _ _ h => h) (Or.inl ⟨by rfl, ?_⟩) hHeld ?_ ?_
  rotate_left
  ·intro w' s0
   have s1 := s0.2.1
   go_simp
   with_reducible rfl
  rotate_left
  ·simp only [Act.put, List.setIfInBounds_toArray, List.set_cons_zero, List.set_cons_succ, i64_w, i32_w]
   rfl
  refine pure_ (i := 5) (N := some 10) (v := ?_) (a' := ?_) #[true, true, true, true, true, true, false, false, false, false, false, false, false, false, false, false, false, false, false, false, false, false, false, false, false, false, false] rfl rfl (any_of HT_.out (by kernel_rfl)) (fun _ _ _ h => h) (Or.inl ⟨by rfl, ?_⟩) ?_ ?_
  rotate_left
  ·intro w'
   go_simp
   with_reducible rfl
  rotate_left
  ·simp only [Act.put, List.setIfInBounds_toArray, List.set_cons_zero, List.set_cons_succ, i64_w, i32_w]
   rfl
  refine take_ (i := 6) (N := some 11) (v := ?_) (a' := ?_) #[true, true, true, true, true, true, true, false, false, false, false, false, false, false, false, false, false, false, false, false, false, false, false, false, false, false, false] rfl rfl (take_ofW HT_.out HW_.out (by kernel_rfl)) (fun _ _ _ h => h) (Or.inl ⟨by rfl, ?_⟩) hHeld ?_ ?_
  rotate_left
  ·intro w' s0
   have s1 := s0.1
   go_simp
   with_reducible rfl
  rotate_left
  ·simp only [Act.put, List.setIfInBounds_toArray, List.set_cons_zero, List.set_cons_succ, i64_w, i32_w]
   rfl
  refine one_ (i := 7) (N := some 12) #[true, true, true, true, true, true, true, true, false, false, false, false, false, false, false, false, false, false, false, false, false, false, false, false, false, false, false] rfl rfl (one_of HT_.out (by kernel_rfl)) (by decide) (fun K hK => ?_)
  refine goes_ Try.func105 (by kernel_rfl) rfl #[.agg #[.slice A0_0 l0_0.length c0_0]] (by rfl) rfl rfl (by (try simp only [List.map_toArray, List.map_cons, List.map_nil]); first | done | rfl) ?_
  with_reducible refine (spec_ProgReads.calls k _ _ l0_0 m _ (Kd.C_below C0.out HBY0.out) L0.out E1.out).mono ?_
  rintro e Y1 ⟨rfl, hb⟩
  refine ⟨_, rfl, ?_⟩
  have BPY1 := am_ (blk_below BPY0.out hb)
  have BSY1 := am_ (blk_below BSY0.out hb)
  have HBY1 := am_ (below_then HBY0.out HBY0.out.size hb)
  clear hb BPY0 BSY0 HBY0
  refine hK.out _ _ ⟨(blk_cell BPY1.out 0).trans rfl, (blk_cell BSY1.out 0).trans rfl, (blk_cell BSY1.out 1).trans rfl⟩ (fun hHeld => ?_)
  clear hK K
  refine norm_ (a' := ?_) ?_ ?_
  rotate_left
  ·show Act.put _ (some 12) _ = _
   simp only [Act.put, List.setIfInBounds_toArray, List.set_cons_zero, List.set_cons_succ, i64_w, i32_w]
   rfl
  refine pure_ (i := 8) (N := some 13) (v := ?_) (a' := ?_) #[true, true, true, true, true, true, true, true, true, false, false, false, false, false, false, false, false, false, false, false, false, false, false, false, false, false, false] rfl rfl (any_of HT_.out (by kernel_rfl)) (fun _ _ _ h => h) (Or.inl ⟨by rfl, ?_⟩) ?_ ?_
  rotate_left
  ·intro w'
   go_simp
   with_reducible rfl
  rotate_left
  ·simp only [Act.put, List.setIfInBounds_toArray, List.set_cons_zero, List.set_cons_succ, i64_w, i32_w]
   rfl
  refine pure_ (i := 9) (N := some 14) (v := ?_) (a' := ?_) #[true, true, true, true, true, true, true, true, true, true, false, false, false, false, false, false, false, false, false, false, false, false, false, false, false, false, false] rfl rfl (any_of HT_.out (by kernel_rfl)) (fun _ _ _ h => h) (Or.inl ⟨by rfl, ?_⟩) ?_ ?_
  rotate_left
  ·intro w'
   go_simp
   with_reducible rfl
  rotate_left
  ·simp only [Act.put, List.setIfInBounds_toArray, List.set_cons_zero, List.set_cons_succ, i64_w, i32_w]
   rfl
  have zz := hCont (.pointer (some ⟨w.heap.size + 1, 0, none⟩), .slice A1_0 l1_0.length c1_0, .int .i64 l1_0.length, .agg #[.slice A0_0 l0_0.length c0_0], .int .i64 m, .bool ((l1_0.length : Int) == m)) _ ⟨⟨(blk_cell BPY1.out 0).trans rfl, (blk_cell BSY1.out 0).trans rfl, (blk_cell BSY1.out 1).trans rfl⟩, BPY1.out, BSY1.out, HBY1.out⟩
  simp only [putAll, Act.put, List.setIfInBounds_toArray, List.set_cons_zero, List.set_cons_succ] at zz
  exact zz
 rintro ⟨z0, z1, z2, z3, z4, z5⟩ Z1 ⟨hHeld, hp, hs, hb⟩
 clear BPY0 BSY0 HBY0
 have BPJ1 := am_ hp
 have BSJ1 := am_ hs
 have HBJ1 := am_ hb
 clear hp hs hb
 refine norm_ (a' := ?_) ?_ ?_
 rotate_left
 ·simp only [putAll, Act.put, List.setIfInBounds_toArray, List.set_cons_zero, List.set_cons_succ, i64_w, i32_w]
  rfl
 refine pure_ (i := 10) (N := some 15) (v := ?_) (a' := ?_) #[true, true, true, true, true, true, true, true, true, true, true, false, false, false, false, false, false, false, false, false, false, false, false, false, false, false, false] rfl rfl (any_of HT_.out (by kernel_rfl)) (fun _ _ _ h => h) (Or.inl ⟨by rfl, ?_⟩) ?_ ?_
 rotate_left
 ·intro w'
  go_simp
  with_reducible rfl
 rotate_left
 ·simp only [Act.put, List.setIfInBounds_toArray, List.set_cons_zero, List.set_cons_succ, i64_w, i32_w]
  rfl
 refine join_ (σ := Value × Value × Value × Value) 11 #[true, true, true, true, true, true, true, true, true, true, true, true, true, true, true, true, false, false, false, false, false, false, false, false, false, false, false] (fun s_ => [(16, s_.1), (17, s_.2.1), (18, s_.2.2.1), (19, s_.2.2.2), (20, .bool b2)]) (fun s_ w' => (w'.cell? ⟨w.heap.size, 0, none⟩ = some (.slice A0_0 l0_0.length c0_0) ∧ w'.cell? ⟨w.heap.size + 1, 0, none⟩ = some (.slice A1_0 l1_0.length c1_0) ∧ w'.cell? ⟨w.heap.size + 1, 1, none⟩ = some (.slice A1_1 l1_1.length c1_1)) ∧ w'.heap[w.heap.size]? = some (Obj.cells #[Value.slice A0_0 l0_0.length c0_0] 35) ∧ w'.heap[w.heap.size + 1]? = some (Obj.cells #[Value.slice A1_0 l1_0.length c1_0, Value.slice A1_1 l1_1.length c1_1] 24) ∧ Below w.heap.size w w') ?_ ?_
 rotate_left
 ·intro hCont
  rcases b1 with _ | _
  ·have e2 := G2f.out rfl
   subst e2
   refine pure_ (i := 11) (N := some 16) (v := undef) (a' := ?_) #[true, true, true, true, true, true, true, true, true, true, true, true, false, false, false, false, false, false, false, false, false, false, false, false, false, false, false] rfl rfl (any_of HT_.out (by kernel_rfl)) (fun _ _ _ h => h) (Or.inr ⟨by rfl, rfl⟩) ?_ ?_
   rotate_left
   ·simp only [Act.put, List.setIfInBounds_toArray, List.set_cons_zero, List.set_cons_succ, i64_w, i32_w]
    rfl
   refine pure_ (i := 12) (N := some 17) (v := undef) (a' := ?_) #[true, true, true, true, true, true, true, true, true, true, true, true, true, false, false, false, false, false, false, false, false, false, false, false, false, false, false] rfl rfl (any_of HT_.out (by kernel_rfl)) (fun _ _ _ h => h) (Or.inr ⟨by rfl, rfl⟩) ?_ ?_
   rotate_left
   ·simp only [Act.put, List.setIfInBounds_toArray, List.set_cons_zero, List.set_cons_succ, i64_w, i32_w]
    rfl
   refine pure_ (i := 13) (N := some 18) (v := undef) (a' := ?_) #[true, true, true, true, true, true, true, true, true, true, true, true, true, true, false, false, false, false, false, false, false, false, false, false, false, false, false] rfl rfl (any_of HT_.out (by kernel_rfl)) (fun _ _ _ h => h) (Or.inr ⟨by rfl, rfl⟩) ?_ ?_
   rotate_left
   ·simp only [Act.put, List.setIfInBounds_toArray, List.set_cons_zero, List.set_cons_succ, i64_w, i32_w]
    rfl
   refine pure_ (i := 14) (N := some 19) (v := undef) (a' := ?_) #[true, true, true, true, true, true, true, true, true, true, true, true, true, true, true, false, false, false, false, false, false, false, false, false, false, false, false] rfl rfl (any_of HT_.out (by kernel_rfl)) (fun _ _ _ h => h) (Or.inr ⟨by rfl, rfl⟩) ?_ ?_
   rotate_left
   ·simp only [Act.put, List.setIfInBounds_toArray, List.set_cons_zero, List.set_cons_succ, i64_w, i32_w]
    rfl
   refine pure_ (i := 15) (N := some 20) (v := ?_) (a' := ?_) #[true, true, true, true, true, true, true, true, true, true, true, true, true, true, true, true, false, false, false, false, false, false, false, false, false, false, false] rfl rfl (any_of HT_.out (by kernel_rfl)) (fun _ _ _ h => h) (Or.inl ⟨by rfl, ?_⟩) ?_ ?_
   rotate_left
   ·intro w'
    go_simp
    with_reducible rfl
   rotate_left
   ·simp only [Act.put, List.setIfInBounds_toArray, List.set_cons_zero, List.set_cons_succ, i64_w, i32_w]
    rfl
   have zz := hCont (undef, undef, undef, undef) _ ⟨⟨(blk_cell BPJ1.out 0).trans rfl, (blk_cell BSJ1.out 0).trans rfl, (blk_cell BSJ1.out 1).trans rfl⟩, BPJ1.out, BSJ1.out, HBJ1.out⟩
   simp only [putAll, Act.put, List.setIfInBounds_toArray, List.set_cons_zero, List.set_cons_succ] at zz
   exact zz
  have e2 := G2.out rfl
  subst e2
  refine pure_ (i := 11) (N := some 16) (v := ?_) (a' := ?_) #[true, true, true, true, true, true, true, true, true, true, true, true, false, false, false, false, false, false, false, false, false, false, false, false, false, false, false] rfl rfl (any_of HT_.out (by kernel_rfl)) (fun _ _ _ h => h) (Or.inl ⟨by rfl, ?_⟩) ?_ ?_
  rotate_left
  ·intro w'
   go_simp
   with_reducible rfl
  rotate_left
  ·simp only [Act.put, List.setIfInBounds_toArray, List.set_cons_zero, List.set_cons_succ, i64_w, i32_w]
   rfl
  refine take_ (i := 12) (N := some 17) (v := ?_) (a' := ?_) #[true, true, true, true, true, true, true, true, true, true, true, true, true, false, false, false, false, false, false, false, false, false, false, false, false, false, false] rfl rfl (take_ofW HT_.out HW_.out (by kernel_rfl)) (fun _ _ _ h => h) (Or.inl ⟨by rfl, ?_⟩) hHeld ?_ ?_
  rotate_left
  ·intro w' s0
   have s1 := s0.2.2
   go_simp
   with_reducible rfl
  rotate_left
  ·simp only [Act.put, List.setIfInBounds_toArray, List.set_cons_zero, List.set_cons_succ, i64_w, i32_w]
   rfl
  refine pure_ (i := 13) (N := some 18) (v := ?_) (a' := ?_) #[true, true, true, true, true, true, true, true, true, true, true, true, true, true, false, false, false, false, false, false, false, false, false, false, false, false, false] rfl rfl (any_of HT_.out (by kernel_rfl)) (fun _ _ _ h => h) (Or.inl ⟨by rfl, ?_⟩) ?_ ?_
  rotate_left
  ·intro w'
   go_simp
   with_reducible rfl
  rotate_left
  ·simp only [Act.put, List.setIfInBounds_toArray, List.set_cons_zero, List.set_cons_succ, i64_w, i32_w]
   rfl
  refine pure_ (i := 14) (N := some 19) (v := ?_) (a' := ?_) #[true, true, true, true, true, true, true, true, true, true, true, true, true, true, true, false, false, false, false, false, false, false, false, false, false, false, false] rfl rfl (any_of HT_.out (by kernel_rfl)) (fun _ _ _ h => h) (Or.inl ⟨by rfl, ?_⟩) ?_ ?_
  rotate_left
  ·intro w'
   go_simp
   with_reducible rfl
  rotate_left
  ·simp only [Act.put, List.setIfInBounds_toArray, List.set_cons_zero, List.set_cons_succ, i64_w, i32_w]
   rfl
  refine pure_ (i := 15) (N := some 20) (v := ?_) (a' := ?_) #[true, true, true, true, true, true, true, true, true, true, true, true, true, true, true, true, false, false, false, false, false, false, false, false, false, false, false] rfl rfl (any_of HT_.out (by kernel_rfl)) (fun _ _ _ h => h) (Or.inl ⟨by rfl, ?_⟩) ?_ ?_
  rotate_left
  ·intro w'
   go_simp
   with_reducible rfl
  rotate_left
  ·simp only [Act.put, List.setIfInBounds_toArray, List.set_cons_zero, List.set_cons_succ, i64_w, i32_w]
   rfl
  have zz := hCont (.pointer (some ⟨w.heap.size + 1, 1, none⟩), .slice A1_1 l1_1.length c1_1, .int .i64 l1_1.length, .bool ((l1_1.length : Int) == 3)) _ ⟨⟨(blk_cell BPJ1.out 0).trans rfl, (blk_cell BSJ1.out 0).trans rfl, (blk_cell BSJ1.out 1).trans rfl⟩, BPJ1.out, BSJ1.out, HBJ1.out⟩
  simp only [putAll, Act.put, List.setIfInBounds_toArray, List.set_cons_zero, List.set_cons_succ] at zz
  exact zz
 rintro ⟨z0, z1, z2, z3⟩ Z2 ⟨hHeld, hp, hs, hb⟩
 clear BPJ1 BSJ1 HBJ1
 have BPJ2 := am_ hp
 have BSJ2 := am_ hs
 have HBJ2 := am_ hb
 clear hp hs hb
 refine norm_ (a' := ?_) ?_ ?_
 rotate_left
 ·simp only [putAll, Act.put, List.setIfInBounds_toArray, List.set_cons_zero, List.set_cons_succ, i64_w, i32_w]
  rfl
 refine pure_ (i := 16) (N := some 21) (v := ?_) (a' := ?_) #[true, true, true, true, true, true, true, true, true, true, true, true, true, true, true, true, true, false, false, false, false, false, false, false, false, false, false] rfl rfl (any_of HT_.out (by kernel_rfl)) (fun _ _ _ h => h) (Or.inl ⟨by rfl, ?_⟩) ?_ ?_
 rotate_left
 ·intro w'
  go_simp
  with_reducible rfl
 rotate_left
 ·simp only [Act.put, List.setIfInBounds_toArray, List.set_cons_zero, List.set_cons_succ, i64_w, i32_w]
  rfl
 refine join_ (σ := Value × Value × Value) 6 #[true, true, true, true, true, true, true, true, true, true, true, true, true, true, true, true, true, true, true, true, true, false, false, false, false, false, false] (fun s_ => [(22, s_.1), (23, s_.2.1), (24, s_.2.2), (25, .bool b3)]) (fun s_ w' => (w'.cell? ⟨w.heap.size, 0, none⟩ = some (.slice A0_0 l0_0.length c0_0) ∧ w'.cell? ⟨w.heap.size + 1, 0, none⟩ = some (.slice A1_0 l1_0.length c1_0) ∧ w'.cell? ⟨w.heap.size + 1, 1, none⟩ = some (.slice A1_1 l1_1.length c1_1)) ∧ w'.heap[w.heap.size]? = some (Obj.cells #[Value.slice A0_0 l0_0.length c0_0] 35) ∧ w'.heap[w.heap.size + 1]? = some (Obj.cells #[Value.slice A1_0 l1_0.length c1_0, Value.slice A1_1 l1_1.length c1_1] 24) ∧ Below w.heap.size w w') ?_ ?_
 rotate_left
 ·intro hCont
  rcases b2 with _ | _
  ·have e2 := G3f.out rfl
   subst e2
   refine pure_ (i := 17) (N := some 22) (v := undef) (a' := ?_) #[true, true, true, true, true, true, true, true, true, true, true, true, true, true, true, true, true, true, false, false, false, false, false, false, false, false, false] rfl rfl (any_of HT_.out (by kernel_rfl)) (fun _ _ _ h => h) (Or.inr ⟨by rfl, rfl⟩) ?_ ?_
   rotate_left
   ·simp only [Act.put, List.setIfInBounds_toArray, List.set_cons_zero, List.set_cons_succ, i64_w, i32_w]
    rfl
   refine pure_ (i := 18) (N := some 23) (v := undef) (a' := ?_) #[true, true, true, true, true, true, true, true, true, true, true, true, true, true, true, true, true, true, true, false, false, false, false, false, false, false, false] rfl rfl (any_of HT_.out (by kernel_rfl)) (fun _ _ _ h => h) (Or.inr ⟨by rfl, rfl⟩) ?_ ?_
   rotate_left
   ·simp only [Act.put, List.setIfInBounds_toArray, List.set_cons_zero, List.set_cons_succ, i64_w, i32_w]
    rfl
   refine pure_ (i := 19) (N := some 24) (v := undef) (a' := ?_) #[true, true, true, true, true, true, true, true, true, true, true, true, true, true, true, true, true, true, true, true, false, false, false, false, false, false, false] rfl rfl (any_of HT_.out (by kernel_rfl)) (fun _ _ _ h => h) (Or.inr ⟨by rfl, rfl⟩) ?_ ?_
   rotate_left
   ·simp only [Act.put, List.setIfInBounds_toArray, List.set_cons_zero, List.set_cons_succ, i64_w, i32_w]
    rfl
   refine pure_ (i := 20) (N := some 25) (v := ?_) (a' := ?_) #[true, true, true, true, true, true, true, true, true, true, true, true, true, true, true, true, true, true, true, true, true, false, false, false, false, false, false] rfl rfl (any_of HT_.out (by kernel_rfl)) (fun _ _ _ h => h) (Or.inl ⟨by rfl, ?_⟩) ?_ ?_
   rotate_left
   ·intro w'
    go_simp
    with_reducible rfl
   rotate_left
   ·simp only [Act.put, List.setIfInBounds_toArray, List.set_cons_zero, List.set_cons_succ, i64_w, i32_w]
    rfl
   have zz := hCont (undef, undef, undef) _ ⟨⟨(blk_cell BPJ2.out 0).trans rfl, (blk_cell BSJ2.out 0).trans rfl, (blk_cell BSJ2.out 1).trans rfl⟩, BPJ2.out, BSJ2.out, HBJ2.out⟩
   simp only [putAll, Act.put, List.setIfInBounds_toArray, List.set_cons_zero, List.set_cons_succ] at zz
   exact zz
  have E1 := am_ (G3.out rfl)
  refine pure_ (i := 17) (N := some 22) (v := ?_) (a' := ?_) #[true, true, true, true, true, true, true, true, true, true, true, true, true, true, true, true, true, true, false, false, false, false, false, false, false, false, false] rfl rfl (any_of HT_.out (by kernel_rfl)) (fun _ _ _ h => h) (Or.inl ⟨by rfl, ?_⟩) ?_ ?_
  rotate_left
  ·intro w'
   go_simp
   with_reducible rfl
  rotate_left
  ·simp only [Act.put, List.setIfInBounds_toArray, List.set_cons_zero, List.set_cons_succ, i64_w, i32_w]
   rfl
  refine take_ (i := 18) (N := some 23) (v := ?_) (a' := ?_) #[true, true, true, true, true, true, true, true, true, true, true, true, true, true, true, true, true, true, true, false, false, false, false, false, false, false, false] rfl rfl (take_ofW HT_.out HW_.out (by kernel_rfl)) (fun _ _ _ h => h) (Or.inl ⟨by rfl, ?_⟩) hHeld ?_ ?_
  rotate_left
  ·intro w' s0
   have s1 := s0.2.1
   go_simp
   with_reducible rfl
  rotate_left
  ·simp only [Act.put, List.setIfInBounds_toArray, List.set_cons_zero, List.set_cons_succ, i64_w, i32_w]
   rfl
  refine one_ (i := 19) (N := some 24) #[true, true, true, true, true, true, true, true, true, true, true, true, true, true, true, true, true, true, true, true, false, false, false, false, false, false, false] rfl rfl (one_of HT_.out (by kernel_rfl)) (by decide) (fun K hK => ?_)
  refine goes_ Try.func128 (by kernel_rfl) rfl #[.slice A1_0 l1_0.length c1_0] (by rfl) rfl rfl (by (try simp only [List.map_toArray, List.map_cons, List.map_nil]); first | done | rfl) ?_
  with_reducible refine (spec_l2Vals.calls k _ _ l1_0 b3 _ (Kd.C_below C1.out HBJ2.out) L1.out E1.out).mono ?_
  rintro e Y3 ⟨rfl, hb⟩
  have hb := hb.below
  refine ⟨_, rfl, ?_⟩
  have BPY3 := am_ (blk_below BPJ2.out hb)
  have BSY3 := am_ (blk_below BSJ2.out hb)
  have HBY3 := am_ (below_then HBJ2.out HBJ2.out.size hb)
  clear hb BPJ2 BSJ2 HBJ2
  refine hK.out _ _ ⟨(blk_cell BPY3.out 0).trans rfl, (blk_cell BSY3.out 0).trans rfl, (blk_cell BSY3.out 1).trans rfl⟩ (fun hHeld => ?_)
  clear hK K
  refine norm_ (a' := ?_) ?_ ?_
  rotate_left
  ·show Act.put _ (some 24) _ = _
   simp only [Act.put, List.setIfInBounds_toArray, List.set_cons_zero, List.set_cons_succ, i64_w, i32_w]
   rfl
  refine pure_ (i := 20) (N := some 25) (v := ?_) (a' := ?_) #[true, true, true, true, true, true, true, true, true, true, true, true, true, true, true, true, true, true, true, true, true, false, false, false, false, false, false] rfl rfl (any_of HT_.out (by kernel_rfl)) (fun _ _ _ h => h) (Or.inl ⟨by rfl, ?_⟩) ?_ ?_
  rotate_left
  ·intro w'
   go_simp
   with_reducible rfl
  rotate_left
  ·simp only [Act.put, List.setIfInBounds_toArray, List.set_cons_zero, List.set_cons_succ, i64_w, i32_w]
   rfl
  have zz := hCont (.pointer (some ⟨w.heap.size + 1, 0, none⟩), .slice A1_0 l1_0.length c1_0, .bool b3) _ ⟨⟨(blk_cell BPY3.out 0).trans rfl, (blk_cell BSY3.out 0).trans rfl, (blk_cell BSY3.out 1).trans rfl⟩, BPY3.out, BSY3.out, HBY3.out⟩
  simp only [putAll, Act.put, List.setIfInBounds_toArray, List.set_cons_zero, List.set_cons_succ] at zz
  exact zz
 rintro ⟨z0, z1, z2⟩ Z3 ⟨hHeld, hp, hs, hb⟩
 clear BPJ2 BSJ2 HBJ2
 have BPJ3 := am_ hp
 have BSJ3 := am_ hs
 have HBJ3 := am_ hb
 clear hp hs hb
 refine norm_ (a' := ?_) ?_ ?_
 rotate_left
 ·simp only [putAll, Act.put, List.setIfInBounds_toArray, List.set_cons_zero, List.set_cons_succ, i64_w, i32_w]
  rfl
 refine pure_ (i := 21) (N := some 26) (v := ?_) (a' := ?_) #[true, true, true, true, true, true, true, true, true, true, true, true, true, true, true, true, true, true, true, true, true, true, false, false, false, false, false] rfl rfl (any_of HT_.out (by kernel_rfl)) (fun _ _ _ h => h) (Or.inl ⟨by rfl, ?_⟩) ?_ ?_
 rotate_left
 ·intro w'
  go_simp
  with_reducible rfl
 rotate_left
 ·simp only [Act.put, List.setIfInBounds_toArray, List.set_cons_zero, List.set_cons_succ, i64_w, i32_w]
  rfl
 refine join_ (σ := Value × Value × Value) 1 #[true, true, true, true, true, true, true, true, true, true, true, true, true, true, true, true, true, true, true, true, true, true, true, true, true, true, false] (fun s_ => [(27, s_.1), (28, s_.2.1), (29, s_.2.2), (30, .bool r)]) (fun s_ w' => (w'.cell? ⟨w.heap.size, 0, none⟩ = some (.slice A0_0 l0_0.length c0_0) ∧ w'.cell? ⟨w.heap.size + 1, 0, none⟩ = some (.slice A1_0 l1_0.length c1_0) ∧ w'.cell? ⟨w.heap.size + 1, 1, none⟩ = some (.slice A1_1 l1_1.length c1_1)) ∧ w'.heap[w.heap.size]? = some (Obj.cells #[Value.slice A0_0 l0_0.length c0_0] 35) ∧ w'.heap[w.heap.size + 1]? = some (Obj.cells #[Value.slice A1_0 l1_0.length c1_0, Value.slice A1_1 l1_1.length c1_1] 24) ∧ Below w.heap.size w w') ?_ ?_
 rotate_left
 ·intro hCont
  rcases b3 with _ | _
  ·have e2 := G4f.out rfl
   subst e2
   refine pure_ (i := 22) (N := some 27) (v := undef) (a' := ?_) #[true, true, true, true, true, true, true, true, true, true, true, true, true, true, true, true, true, true, true, true, true, true, true, false, false, false, false] rfl rfl (any_of HT_.out (by kernel_rfl)) (fun _ _ _ h => h) (Or.inr ⟨by rfl, rfl⟩) ?_ ?_
   rotate_left
   ·simp only [Act.put, List.setIfInBounds_toArray, List.set_cons_zero, List.set_cons_succ, i64_w, i32_w]
    rfl
   refine pure_ (i := 23) (N := some 28) (v := undef) (a' := ?_) #[true, true, true, true, true, true, true, true, true, true, true, true, true, true, true, true, true, true, true, true, true, true, true, true, false, false, false] rfl rfl (any_of HT_.out (by kernel_rfl)) (fun _ _ _ h => h) (Or.inr ⟨by rfl, rfl⟩) ?_ ?_
   rotate_left
   ·simp only [Act.put, List.setIfInBounds_toArray, List.set_cons_zero, List.set_cons_succ, i64_w, i32_w]
    rfl
   refine pure_ (i := 24) (N := some 29) (v := undef) (a' := ?_) #[true, true, true, true, true, true, true, true, true, true, true, true, true, true, true, true, true, true, true, true, true, true, true, true, true, false, false] rfl rfl (any_of HT_.out (by kernel_rfl)) (fun _ _ _ h => h) (Or.inr ⟨by rfl, rfl⟩) ?_ ?_
   rotate_left
   ·simp only [Act.put, List.setIfInBounds_toArray, List.set_cons_zero, List.set_cons_succ, i64_w, i32_w]
    rfl
   refine pure_ (i := 25) (N := some 30) (v := ?_) (a' := ?_) #[true, true, true, true, true, true, true, true, true, true, true, true, true, true, true, true, true, true, true, true, true, true, true, true, true, true, false] rfl rfl (any_of HT_.out (by kernel_rfl)) (fun _ _ _ h => h) (Or.inl ⟨by rfl, ?_⟩) ?_ ?_
   rotate_left
   ·intro w'
    go_simp
    with_reducible rfl
   rotate_left
   ·simp only [Act.put, List.setIfInBounds_toArray, List.set_cons_zero, List.set_cons_succ, i64_w, i32_w]
    rfl
   have zz := hCont (undef, undef, undef) _ ⟨⟨(blk_cell BPJ3.out 0).trans rfl, (blk_cell BSJ3.out 0).trans rfl, (blk_cell BSJ3.out 1).trans rfl⟩, BPJ3.out, BSJ3.out, HBJ3.out⟩
   simp only [putAll, Act.put, List.setIfInBounds_toArray, List.set_cons_zero, List.set_cons_succ] at zz
   exact zz
  have E1 := am_ (G4.out rfl)
  refine pure_ (i := 22) (N := some 27) (v := ?_) (a' := ?_) #[true, true, true, true, true, true, true, true, true, true, true, true, true, true, true, true, true, true, true, true, true, true, true, false, false, false, false] rfl rfl (any_of HT_.out (by kernel_rfl)) (fun _ _ _ h => h) (Or.inl ⟨by rfl, ?_⟩) ?_ ?_
  rotate_left
  ·intro w'
   go_simp
   with_reducible rfl
  rotate_left
  ·simp only [Act.put, List.setIfInBounds_toArray, List.set_cons_zero, List.set_cons_succ, i64_w, i32_w]
   rfl
  refine take_ (i := 23) (N := some 28) (v := ?_) (a' := ?_) #[true, true, true, true, true, true, true, true, true, true, true, true, true, true, true, true, true, true, true, true, true, true, true, true, false, false, false] rfl rfl (take_ofW HT_.out HW_.out (by kernel_rfl)) (fun _ _ _ h => h) (Or.inl ⟨by rfl, ?_⟩) hHeld ?_ ?_
  rotate_left
  ·intro w' s0
   have s1 := s0.2.2
   go_simp
   with_reducible rfl
  rotate_left
  ·simp only [Act.put, List.setIfInBounds_toArray, List.set_cons_zero, List.set_cons_succ, i64_w, i32_w]
   rfl
  refine one_ (i := 24) (N := some 29) #[true, true, true, true, true, true, true, true, true, true, true, true, true, true, true, true, true, true, true, true, true, true, true, true, true, false, false] rfl rfl (one_of HT_.out (by kernel_rfl)) (by decide) (fun K hK => ?_)
  refine goes_ Try.func128 (by kernel_rfl) rfl #[.slice A1_1 l1_1.length c1_1] (by rfl) rfl rfl (by (try simp only [List.map_toArray, List.map_cons, List.map_nil]); first | done | rfl) ?_
  with_reducible refine (spec_l2Vals.calls k _ _ l1_1 r _ (Kd.C_below C2.out HBJ3.out) L2.out E1.out).mono ?_
  rintro e Y4 ⟨rfl, hb⟩
  have hb := hb.below
  refine ⟨_, rfl, ?_⟩
  have BPY4 := am_ (blk_below BPJ3.out hb)
  have BSY4 := am_ (blk_below BSJ3.out hb)
  have HBY4 := am_ (below_then HBJ3.out HBJ3.out.size hb)
  clear hb BPJ3 BSJ3 HBJ3
  refine hK.out _ _ ⟨(blk_cell BPY4.out 0).trans rfl, (blk_cell BSY4.out 0).trans rfl, (blk_cell BSY4.out 1).trans rfl⟩ (fun hHeld => ?_)
  clear hK K
  refine norm_ (a' := ?_) ?_ ?_
  rotate_left
  ·show Act.put _ (some 29) _ = _
   simp only [Act.put, List.setIfInBounds_toArray, List.set_cons_zero, List.set_cons_succ, i64_w, i32_w]
   rfl
  refine pure_ (i := 25) (N := some 30) (v := ?_) (a' := ?_) #[true, true, true, true, true, true, true, true, true, true, true, true, true, true, true, true, true, true, true, true, true, true, true, true, true, true, false] rfl rfl (any_of HT_.out (by kernel_rfl)) (fun _ _ _ h => h) (Or.inl ⟨by rfl, ?_⟩) ?_ ?_
  rotate_left
  ·intro w'
   go_simp
   with_reducible rfl
  rotate_left
  ·simp only [Act.put, List.setIfInBounds_toArray, List.set_cons_zero, List.set_cons_succ, i64_w, i32_w]
   rfl
  have zz := hCont (.pointer (some ⟨w.heap.size + 1, 1, none⟩), .slice A1_1 l1_1.length c1_1, .bool r) _ ⟨⟨(blk_cell BPY4.out 0).trans rfl, (blk_cell BSY4.out 0).trans rfl, (blk_cell BSY4.out 1).trans rfl⟩, BPY4.out, BSY4.out, HBY4.out⟩
  simp only [putAll, Act.put, List.setIfInBounds_toArray, List.set_cons_zero, List.set_cons_succ] at zz
  exact zz
 rintro ⟨z0, z1, z2⟩ Z4 ⟨hHeld, hp, hs, hb⟩
 clear BPJ3 BSJ3 HBJ3
 have BPJ4 := am_ hp
 have BSJ4 := am_ hs
 have HBJ4 := am_ hb
 clear hp hs hb
 refine norm_ (a' := ?_) ?_ ?_
 rotate_left
 ·simp only [putAll, Act.put, List.setIfInBounds_toArray, List.set_cons_zero, List.set_cons_succ, i64_w, i32_w]
  rfl
 refine pure_ (i := 26) (N := some 4) (v := ?_) (a' := ?_) #[true, true, true, true, true, true, true, true, true, true, true, true, true, true, true, true, true, true, true, true, true, true, true, true, true, true, true] rfl rfl (any_of HT_.out (by kernel_rfl)) (fun _ _ _ h => h) (Or.inl ⟨by rfl, ?_⟩) ?_ ?_
 rotate_left
 ·intro w'
  go_simp
  with_reducible rfl
 rotate_left
 ·simp only [Act.put, List.setIfInBounds_toArray, List.set_cons_zero, List.set_cons_succ, i64_w, i32_w]
  rfl
 refine done_ (done_of HT_.out (by kernel_rfl)) ?_
 clear HT_ HW_ hHeld
 go_wp2_with fail
 refine bodyPost_ret (results_tmp rfl _ _ _) rfl ?_
 exact ⟨rfl, HBJ4.out⟩


end Go.Proofs.Ytefkbmhkhpekjaa.PB

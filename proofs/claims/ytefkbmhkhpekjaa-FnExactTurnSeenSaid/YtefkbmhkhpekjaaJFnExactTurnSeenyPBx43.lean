-- Written by this session's wip/myprint.py (the kit's print.py, with hand-written chunks). Lean checks it.
import Derived.Test.YtefkbmhkhpekjaaPBx0
import Derived.Test.YtefkbmhkhpekjaaJFnExactTurnSeenx4
import Derived.Test.YtefkbmhkhpekjaaJFnExactTurnSeenyPBx93
namespace Go.Proofs.Ytefkbmhkhpekjaa.PB
open Go.RowKit Go.Proofs.YtefkbmhkhpekjaaW.PrintWords Go.Proofs.YtefkbmhkhpekjaaW.PrintLast Go.Proofs.YtefkbmhkhpekjaaW.PrintMore
attribute [local go_sem] max2_int min2_int max_two min_two max_three min_three max_four min_four   -- for this text's walks alone
open Go.Proofs.YtefkbmhkhpekjaaMine
set_option linter.unusedVariables false
set_option linter.unusedSimpArgs false

theorem z43_1 {p : Prop} (h : p := by first | rfl | (simp; done) | (simp [*]; done)) : p := h
theorem z43_2 {p : Prop} (h : p := by first | (with_reducible assumption) | assumption) : p := h
theorem z43_3 {p : Prop} (h : p := by first | rfl | (simp [errW_none, errW_some] <;> rfl) | (simp [*, errW_none, errW_some] <;> rfl)) : p := h
theorem z43_4 {p : Prop} (h : p := by repeat (first | (with_reducible first | exact HB.out | apply below_alloc | apply pw_below_drewN | apply below_drew1) | exact HB.out)) : p := h
theorem z43_5 {p : Prop} (h : p := by repeat (first | (with_reducible first | exact HB.out | apply below_alloc | apply pw_below_drewN | apply below_drew1 | refine below_set ?_ GE571.out) | exact HB.out)) : p := h
/-! ### spec_ProgOk: function 43 -/
mutual
def spec_ProgOk.l0 : Nat → Int → Int → Int → List (List (S85)) → Option (Bool)
  | 0, _, _, _, _ => none
  | k + 1, x3, x4, x5, x572000 => if x5 < (x572000.length : Int) then (if 0 ≤ x5 then ((spec_l1Thread.f k (rd_L7 x572000 x5)).bind fun t573 => (if t573 = true then (spec_ProgOk.l1 k (wrap64 (x3 + ((rd_L7 x572000 x5).length : Int))) x4 x5 0 x572000) else (some false))) else (none)) else (if x3 ≤ 14 then (some (decide (x4 ≤ 6))) else (some false))
def spec_ProgOk.l1 : Nat → Int → Int → Int → Int → List (List (S85)) → Option (Bool)
  | 0, _, _, _, _, _ => none
  | k + 1, x3, x4, x5, x6, x572000 => if 0 ≤ x5 then (if x5 < (x572000.length : Int) then (if x6 < ((rd_L7 x572000 x5).length : Int) then (if 0 ≤ x6 then ((spec_l1Reads.f ((rd_T85 (rd_L7 x572000 x5) x6).f0) ((rd_T85 (rd_L7 x572000 x5) x6).f1) ((rd_T85 (rd_L7 x572000 x5) x6).f2)).bind fun t578 => (if t578 = true then (spec_ProgOk.l1 k x3 (wrap64 (x4 + 1)) x5 (wrap64 (x6 + 1)) x572000) else ((spec_l1Writes.f ((rd_T85 (rd_L7 x572000 x5) x6).f0) ((rd_T85 (rd_L7 x572000 x5) x6).f1) ((rd_T85 (rd_L7 x572000 x5) x6).f2)).bind fun t581 => (if t581 = true then (spec_ProgOk.l1 k x3 (wrap64 (x4 + 1)) x5 (wrap64 (x6 + 1)) x572000) else (spec_ProgOk.l1 k x3 x4 x5 (wrap64 (x6 + 1)) x572000))))) else (none)) else (spec_ProgOk.l0 k x3 x4 (wrap64 (x5 + 1)) x572000)) else (none)) else (none)
end
def spec_ProgOk.f (k : Nat) (l0_0 : List (List (S85))) : Option (Bool) := if (l0_0.length : Int) > 3 then (some false) else (spec_ProgOk.l0 k 0 0 0 l0_0)
set_option maxHeartbeats 8000000 in
set_option maxRecDepth 100000 in
theorem spec_ProgOk.calls (k : Nat) (A0_0 : Option Addr) (c0_0 : Nat) (l0_0 : List (List (S85))) (r : Bool) (w : World) (hr0_0 : Kd.C (Kd.slice 85 k85) w A0_0 l0_0.length l0_0) (hc0_0 : l0_0.length ≤ c0_0) (h : spec_ProgOk.f k l0_0 = some r) :
  Calls Try.prog 43 #[.agg #[.slice A0_0 l0_0.length c0_0]] w fun e w' => e = .returned (.bool r) ∧ Below w.heap.size w w' := by
 have hu35 := Try.underlying35
 have hu85 := Try.underlying85
 have HR0_0 := am_ hr0_0
 have HC0_0 := am_ hc0_0
 clear hr0_0 hc0_0
 have HB := am_ (Below.refl w.heap.size w)
 have H : (if (l0_0.length : Int) > 3 then (some false) else (spec_ProgOk.l0 k 0 0 0 l0_0)) = some r := h
 clear h
 by_cases c2 : (l0_0.length : Int) > 3
 ·rw [if_pos c2] at H
  have c2b0 : decide (3 < (l0_0.length : Int)) = true := decide_eq_true c2
  have c2b1 : decide (3 < l0_0.length) = true := decide_eq_true (by omega)
  clear c2
  obtain rfl := Option.some.inj H
  go_enter Try.func43, Try.ntmps43
  go_wp2_with (first | ((with_reducible refine gate_dst (N := 1) rfl ?_); refine box_event ?hg (N := 1) ?hd (cs := #[.slice A0_0 l0_0.length c0_0]) (t := 35) ?hr ?_; (case hd => rfl); (case hg => rfl); (case hr => first | (go_simp; done) | (go_simp; rfl)); intro gb571 hg w3 hbox hb; have n0_ := am_ (below_step z43_4 hb); have n1_ := am_ (hbox); have n2_ := am_ (by rw [hg]; exact (below_size z43_4) : w.heap.size ≤ gb571); have n3_ := am_ (by rw [hg]; exact (below_size z43_4) : w.heap.size ≤ gb571); clear HB; have HB := n0_; have BK571 := n1_; have GW571 := n2_; have GE571 := n3_; clear n0_ n1_ n2_ n3_; clear hb hbox hg; have hcz4_0 : w3.cell? ⟨gb571, 0, none⟩ = some (.slice A0_0 l0_0.length c0_0) := (blk_cell BK571.out 0).trans rfl; have hfz4_0 := blk_frozen BK571.out 0))
  go_ret
  exact ⟨z43_3, z43_5⟩
 ·rw [if_neg c2] at H
  have c2b0 : decide (3 < (l0_0.length : Int)) = false := decide_eq_false c2
  have c2b1 : decide (3 < l0_0.length) = false := decide_eq_false (by omega)
  clear c2
  have H' := am_ H
  clear H
  go_enter Try.func43, Try.ntmps43
  go_wp2_with (first | ((with_reducible refine gate_dst (N := 1) rfl ?_); refine box_event ?hg (N := 1) ?hd (cs := #[.slice A0_0 l0_0.length c0_0]) (t := 35) ?hr ?_; (case hd => rfl); (case hg => rfl); (case hr => first | (go_simp; done) | (go_simp; rfl)); intro gb571 hg w5 hbox hb; have n0_ := am_ (below_step z43_4 hb); have n1_ := am_ (hbox); have n2_ := am_ (by rw [hg]; exact (below_size z43_4) : w.heap.size ≤ gb571); have n3_ := am_ (by rw [hg]; exact (below_size z43_4) : w.heap.size ≤ gb571); clear HB; have HB := n0_; have BK571 := n1_; have GW571 := n2_; have GE571 := n3_; clear n0_ n1_ n2_ n3_; clear hb hbox hg; have hcz6_0 : w5.cell? ⟨gb571, 0, none⟩ = some (.slice A0_0 l0_0.length c0_0) := (blk_cell BK571.out 0).trans rfl; have hfz6_0 := blk_frozen BK571.out 0))
  go_loopg [3, 4, 5] k (fun kq v3 v4 v5 w' => ∃ (x3_1 : Int) (x4_1 : Int) (x5_1 : Int), v3 = .int .i64 x3_1 ∧ v4 = .int .i64 x4_1 ∧ v5 = .int .i64 x5_1 ∧ Aside0 (spec_ProgOk.l0 kq x3_1 x4_1 x5_1 l0_0 = some r) ∧ Aside0 (kq ≤ k) ∧ Aside0 (w'.heap[gb571]? = some (.cells #[(.slice A0_0 l0_0.length c0_0)] 35 (0, 0))) ∧ Aside0 (Below w.heap.size w w'))
  case atStart => exact ⟨(0), (0), (0), z43_1, z43_1, z43_1, H', ⟨Nat.le_refl _⟩, ⟨bu BK571.out⟩, ⟨z43_5⟩⟩
  case round =>
   clear H'
   obtain ⟨x3_1, x4_1, x5_1, rfl, rfl, rfl, HA, HK1, BK571, HB⟩ := hrel
   cases gk with
   | zero => exact absurd HA.out (by simp [spec_ProgOk.l0])
   | succ k1 =>
    have H := HA.out
    clear HA
    simp only [spec_ProgOk.l0] at H
    by_cases c7 : x5_1 < (l0_0.length : Int)
    ·rw [if_pos c7] at H
     have c7b0 : decide (x5_1 < (l0_0.length : Int)) = true := decide_eq_true c7
     clear c7
     by_cases c8 : 0 ≤ x5_1
     ·rw [if_pos c8] at H
      have c8b0 : decide (0 ≤ x5_1) = true := decide_eq_true c8
      clear c8
      replace H := Option.bind_eq_some_iff.mp H
      obtain ⟨t573, A90, H⟩ := H
      replace H : (if t573 = true then (spec_ProgOk.l1 k1 (wrap64 (x3_1 + ((rd_L7 l0_0 x5_1).length : Int))) x4_1 x5_1 0 l0_0) else (some false)) = some r := H
      have A9 := am_ A90
      clear A90
      by_cases c10 : t573 = true
      ·subst c10
       have H1 : (spec_ProgOk.l1 k1 (wrap64 (x3_1 + ((rd_L7 l0_0 x5_1).length : Int))) x4_1 x5_1 0 l0_0) = some r := by rw [if_pos rfl] at H; exact H
       clear H
       have H := H1
       clear H1
       have H' := am_ H
       clear H
       have hcz11_0 : wr.cell? ⟨gb571, 0, none⟩ = some (.slice A0_0 l0_0.length c0_0) := (blk_cell BK571.out 0).trans rfl
       have hfz11_0 := blk_frozen BK571.out 0
       have p572 : 0 ≤ (x5_1 : Int) := of_decide_eq_true z43_2
       have q572 : x5_1 < (l0_0.length : Int) := of_decide_eq_true z43_2
       obtain ⟨ad572, A572_0, c572_0, e572, hx572_0, hl572_0, hi572_0⟩ := at_L7 HR0_0.out x5_1 p572 q572
       cases e572
       replace hx572_0 := (HB.out.cell (World.block_lt_of_cell? w _ hx572_0)).trans hx572_0
       have HR572_0 := am_ hi572_0
       have HC572_0 := am_ hl572_0
       clear hi572_0 hl572_0
       replace p572 := eq_true p572
       replace q572 := eq_true q572
       go_wp2_with (first | ((with_reducible refine gate_callee (f := 93) rfl ?_); refine goesL_ (some 23) rfl rfl Try.func93 (by kernel_rfl) rfl #[.slice A572_0 (rd_L7 l0_0 x5_1).length c572_0] rfl (by (try simp only [List.map_toArray, List.map_cons, List.map_nil]); first | done | rfl | (simp only [List.length_drop, List.length_take]; rfl)) ?_; (with_reducible refine (spec_l1Thread.calls k1 _ _ (rd_L7 l0_0 x5_1) true _ ?side1 ?side2 A9.out).mono ?_); (case side1 => repeat (first | exact (Kd.C_below HR572_0.out HB.out) | (with_reducible refine Kd.C_alloc ?_ _) | (with_reducible refine Kd.C_drewN ?_ _) | (with_reducible refine Kd.C_drew ?_))); (case side2 => exact HC572_0.out); rintro e w12 ⟨rfl, hb⟩; refine ⟨_, rfl, ?_⟩; have n0_ := am_ (blk_below (bu BK571.out) hb); have n1_ := am_ (below_step z43_5 hb); clear BK571 HB; have BK571 := n0_; have HB := n1_; clear n0_ n1_; (try clear hb); (try clear hb2); (try clear hk); (try clear hi); have hcz13_0 : w12.cell? ⟨gb571, 0, none⟩ = some (.slice (some ad572) l0_0.length c0_0) := (blk_cell BK571.out 0).trans rfl; have hfz13_0 := blk_frozen BK571.out 0; have p574 : 0 ≤ (x5_1 : Int) := of_decide_eq_true z43_2; have q574 : x5_1 < (l0_0.length : Int) := of_decide_eq_true z43_2; obtain ⟨ad574, A574_0, c574_0, e574, hx574_0, hl574_0, hi574_0⟩ := at_L7 HR0_0.out x5_1 p574 q574; obtain rfl : ad572 = ad574 := (by injection e574); replace hx574_0 := (HB.out.cell (World.block_lt_of_cell? w _ hx574_0)).trans hx574_0; have HR574_0 := am_ hi574_0; have HC574_0 := am_ hl574_0; clear hi574_0 hl574_0; replace p574 := eq_true p574; replace q574 := eq_true q574))
       go_loopg [4, 6] k1 (fun kq v4 v6 w' => ∃ (x4_2 : Int) (x6_2 : Int), v4 = .int .i64 x4_2 ∧ v6 = .int .i64 x6_2 ∧ Aside0 (spec_ProgOk.l1 kq (wrap64 (x3_1 + ((rd_L7 l0_0 x5_1).length : Int))) x4_2 x5_1 x6_2 l0_0 = some r) ∧ Aside0 (kq ≤ k1) ∧ Aside0 (w'.heap[gb571]? = some (.cells #[(.slice (some ad572) l0_0.length c0_0)] 35 (0, 0))) ∧ Aside0 (Below w.heap.size w w'))
       case atStart => exact ⟨(x4_1), (0), z43_1, z43_1, H', ⟨Nat.le_refl _⟩, ⟨bu BK571.out⟩, ⟨z43_5⟩⟩
       case round =>
        clear H'
        obtain ⟨x4_2, x6_2, rfl, rfl, HA, HK2, BK571, HB⟩ := hrel
        cases gk with
        | zero => exact absurd HA.out (by simp [spec_ProgOk.l1])
        | succ k2 =>
         have H := HA.out
         clear HA
         simp only [spec_ProgOk.l1] at H
         by_cases c14 : 0 ≤ x5_1
         ·rw [if_pos c14] at H
          have c14b0 : decide (0 ≤ x5_1) = true := decide_eq_true c14
          clear c14
          by_cases c15 : x5_1 < (l0_0.length : Int)
          ·rw [if_pos c15] at H
           have c15b0 : decide (x5_1 < (l0_0.length : Int)) = true := decide_eq_true c15
           clear c15
           by_cases c16 : x6_2 < ((rd_L7 l0_0 x5_1).length : Int)
           ·rw [if_pos c16] at H
            have c16b0 : decide (x6_2 < ((rd_L7 l0_0 x5_1).length : Int)) = true := decide_eq_true c16
            clear c16
            by_cases c17 : 0 ≤ x6_2
            ·rw [if_pos c17] at H
             have c17b0 : decide (0 ≤ x6_2) = true := decide_eq_true c17
             clear c17
             replace H := Option.bind_eq_some_iff.mp H
             obtain ⟨t578, A180, H⟩ := H
             replace H : (if t578 = true then (spec_ProgOk.l1 k2 (wrap64 (x3_1 + ((rd_L7 l0_0 x5_1).length : Int))) (wrap64 (x4_2 + 1)) x5_1 (wrap64 (x6_2 + 1)) l0_0) else ((spec_l1Writes.f ((rd_T85 (rd_L7 l0_0 x5_1) x6_2).f0) ((rd_T85 (rd_L7 l0_0 x5_1) x6_2).f1) ((rd_T85 (rd_L7 l0_0 x5_1) x6_2).f2)).bind fun t581 => (if t581 = true then (spec_ProgOk.l1 k2 (wrap64 (x3_1 + ((rd_L7 l0_0 x5_1).length : Int))) (wrap64 (x4_2 + 1)) x5_1 (wrap64 (x6_2 + 1)) l0_0) else (spec_ProgOk.l1 k2 (wrap64 (x3_1 + ((rd_L7 l0_0 x5_1).length : Int))) x4_2 x5_1 (wrap64 (x6_2 + 1)) l0_0)))) = some r := H
             have A18 := am_ A180
             clear A180
             by_cases c19 : t578 = true
             ·subst c19
              have H1 : (spec_ProgOk.l1 k2 (wrap64 (x3_1 + ((rd_L7 l0_0 x5_1).length : Int))) (wrap64 (x4_2 + 1)) x5_1 (wrap64 (x6_2 + 1)) l0_0) = some r := by rw [if_pos rfl] at H; exact H
              clear H
              have H := H1
              clear H1
              have H' := am_ H
              clear H
              have hcz20_0 : wr.cell? ⟨gb571, 0, none⟩ = some (.slice (some ad572) l0_0.length c0_0) := (blk_cell BK571.out 0).trans rfl
              have hfz20_0 := blk_frozen BK571.out 0
              have p575 : 0 ≤ (x5_1 : Int) := of_decide_eq_true z43_2
              have q575 : x5_1 < (l0_0.length : Int) := of_decide_eq_true z43_2
              obtain ⟨ad575, A575_0, c575_0, e575, hx575_0, hl575_0, hi575_0⟩ := at_L7 HR0_0.out x5_1 p575 q575
              obtain rfl : ad572 = ad575 := (by injection e575)
              replace hx575_0 := (HB.out.cell (World.block_lt_of_cell? w _ hx575_0)).trans hx575_0
              have HR575_0 := am_ hi575_0
              have HC575_0 := am_ hl575_0
              clear hi575_0 hl575_0
              replace p575 := eq_true p575
              replace q575 := eq_true q575
              have p576 : 0 ≤ (x5_1 : Int) := of_decide_eq_true z43_2
              have q576 : x5_1 < (l0_0.length : Int) := of_decide_eq_true z43_2
              obtain ⟨ad576, A576_0, c576_0, e576, hx576_0, hl576_0, hi576_0⟩ := at_L7 HR0_0.out x5_1 p576 q576
              obtain rfl : ad572 = ad576 := (by injection e576)
              replace hx576_0 := (HB.out.cell (World.block_lt_of_cell? w _ hx576_0)).trans hx576_0
              have HR576_0 := am_ hi576_0
              have HC576_0 := am_ hl576_0
              clear hi576_0 hl576_0
              replace p576 := eq_true p576
              replace q576 := eq_true q576
              have ea_ := Option.some.inj (hx575_0.symm.trans hx576_0)
              injection ea_ with ea_ en_ ec_
              subst ea_
              subst ec_
              clear en_
              have p577 : 0 ≤ (x6_2 : Int) := of_decide_eq_true z43_2
              have q577 : x6_2 < ((rd_L7 l0_0 x5_1).length : Int) := of_decide_eq_true z43_2
              obtain ⟨ad577, e577, hx577_0, hx577_1, hx577_2⟩ := at_T85 HR576_0.out x6_2 p577 q577
              cases e577
              replace hx577_0 := (HB.out.cell (World.block_lt_of_cell? w _ hx577_0)).trans hx577_0
              replace hx577_1 := (HB.out.cell (World.block_lt_of_cell? w _ hx577_1)).trans hx577_1
              replace hx577_2 := (HB.out.cell (World.block_lt_of_cell? w _ hx577_2)).trans hx577_2
              replace p577 := eq_true p577
              replace q577 := eq_true q577
              go_wp2_with (first | ((with_reducible refine gate_callee (f := 87) rfl ?_); refine goesL_ (some 51) rfl rfl Try.func87 (by kernel_rfl) rfl #[.agg #[.int .i64 ((rd_T85 (rd_L7 l0_0 x5_1) x6_2).f0), .int .i64 ((rd_T85 (rd_L7 l0_0 x5_1) x6_2).f1), .int .i64 ((rd_T85 (rd_L7 l0_0 x5_1) x6_2).f2)]] rfl (by (try simp only [List.map_toArray, List.map_cons, List.map_nil]); first | done | rfl | (simp only [List.length_drop, List.length_take]; rfl)) ?_; (with_reducible refine (spec_l1Reads.calls ((rd_T85 (rd_L7 l0_0 x5_1) x6_2).f0) ((rd_T85 (rd_L7 l0_0 x5_1) x6_2).f1) ((rd_T85 (rd_L7 l0_0 x5_1) x6_2).f2) true _ A18.out).mono ?_); rintro e w21 ⟨rfl, hb⟩; refine ⟨_, rfl, ?_⟩; have n0_ := am_ (blk_below (bu BK571.out) hb); have n1_ := am_ (below_step z43_5 hb); clear BK571 HB; have BK571 := n0_; have HB := n1_; clear n0_ n1_; (try clear hb); (try clear hb2); (try clear hk); (try clear hi)))
              go_roundg k2
              case measure => have := HK1.out; have := HK2.out; omega
              case rel => exact ⟨(wrap64 (x4_2 + 1)), (wrap64 (x6_2 + 1)), z43_1, z43_1, H', ⟨by have := HK1.out; have := HK2.out; omega⟩, ⟨bu BK571.out⟩, ⟨z43_5⟩⟩
             ·replace c19 := Bool.eq_false_iff.mpr c19
              subst c19
              have H1 : ((spec_l1Writes.f ((rd_T85 (rd_L7 l0_0 x5_1) x6_2).f0) ((rd_T85 (rd_L7 l0_0 x5_1) x6_2).f1) ((rd_T85 (rd_L7 l0_0 x5_1) x6_2).f2)).bind fun t581 => (if t581 = true then (spec_ProgOk.l1 k2 (wrap64 (x3_1 + ((rd_L7 l0_0 x5_1).length : Int))) (wrap64 (x4_2 + 1)) x5_1 (wrap64 (x6_2 + 1)) l0_0) else (spec_ProgOk.l1 k2 (wrap64 (x3_1 + ((rd_L7 l0_0 x5_1).length : Int))) x4_2 x5_1 (wrap64 (x6_2 + 1)) l0_0))) = some r := by rw [if_neg (show ¬ (false = true) by decide)] at H; exact H
              clear H
              have H := H1
              clear H1
              replace H := Option.bind_eq_some_iff.mp H
              obtain ⟨t581, A220, H⟩ := H
              replace H : (if t581 = true then (spec_ProgOk.l1 k2 (wrap64 (x3_1 + ((rd_L7 l0_0 x5_1).length : Int))) (wrap64 (x4_2 + 1)) x5_1 (wrap64 (x6_2 + 1)) l0_0) else (spec_ProgOk.l1 k2 (wrap64 (x3_1 + ((rd_L7 l0_0 x5_1).length : Int))) x4_2 x5_1 (wrap64 (x6_2 + 1)) l0_0)) = some r := H
              have A22 := am_ A220
              clear A220
              by_cases c23 : t581 = true
              ·subst c23
               have H1 : (spec_ProgOk.l1 k2 (wrap64 (x3_1 + ((rd_L7 l0_0 x5_1).length : Int))) (wrap64 (x4_2 + 1)) x5_1 (wrap64 (x6_2 + 1)) l0_0) = some r := by rw [if_pos rfl] at H; exact H
               clear H
               have H := H1
               clear H1
               have H' := am_ H
               clear H
               have hcz24_0 : wr.cell? ⟨gb571, 0, none⟩ = some (.slice (some ad572) l0_0.length c0_0) := (blk_cell BK571.out 0).trans rfl
               have hfz24_0 := blk_frozen BK571.out 0
               have p575 : 0 ≤ (x5_1 : Int) := of_decide_eq_true z43_2
               have q575 : x5_1 < (l0_0.length : Int) := of_decide_eq_true z43_2
               obtain ⟨ad575, A575_0, c575_0, e575, hx575_0, hl575_0, hi575_0⟩ := at_L7 HR0_0.out x5_1 p575 q575
               obtain rfl : ad572 = ad575 := (by injection e575)
               replace hx575_0 := (HB.out.cell (World.block_lt_of_cell? w _ hx575_0)).trans hx575_0
               have HR575_0 := am_ hi575_0
               have HC575_0 := am_ hl575_0
               clear hi575_0 hl575_0
               replace p575 := eq_true p575
               replace q575 := eq_true q575
               have p576 : 0 ≤ (x5_1 : Int) := of_decide_eq_true z43_2
               have q576 : x5_1 < (l0_0.length : Int) := of_decide_eq_true z43_2
               obtain ⟨ad576, A576_0, c576_0, e576, hx576_0, hl576_0, hi576_0⟩ := at_L7 HR0_0.out x5_1 p576 q576
               obtain rfl : ad572 = ad576 := (by injection e576)
               replace hx576_0 := (HB.out.cell (World.block_lt_of_cell? w _ hx576_0)).trans hx576_0
               have HR576_0 := am_ hi576_0
               have HC576_0 := am_ hl576_0
               clear hi576_0 hl576_0
               replace p576 := eq_true p576
               replace q576 := eq_true q576
               have ea_ := Option.some.inj (hx575_0.symm.trans hx576_0)
               injection ea_ with ea_ en_ ec_
               subst ea_
               subst ec_
               clear en_
               have p577 : 0 ≤ (x6_2 : Int) := of_decide_eq_true z43_2
               have q577 : x6_2 < ((rd_L7 l0_0 x5_1).length : Int) := of_decide_eq_true z43_2
               obtain ⟨ad577, e577, hx577_0, hx577_1, hx577_2⟩ := at_T85 HR576_0.out x6_2 p577 q577
               cases e577
               replace hx577_0 := (HB.out.cell (World.block_lt_of_cell? w _ hx577_0)).trans hx577_0
               replace hx577_1 := (HB.out.cell (World.block_lt_of_cell? w _ hx577_1)).trans hx577_1
               replace hx577_2 := (HB.out.cell (World.block_lt_of_cell? w _ hx577_2)).trans hx577_2
               replace p577 := eq_true p577
               replace q577 := eq_true q577
               go_wp2_with (first | ((with_reducible refine gate_callee (f := 87) rfl ?_); refine goesL_ (some 51) rfl rfl Try.func87 (by kernel_rfl) rfl #[.agg #[.int .i64 ((rd_T85 (rd_L7 l0_0 x5_1) x6_2).f0), .int .i64 ((rd_T85 (rd_L7 l0_0 x5_1) x6_2).f1), .int .i64 ((rd_T85 (rd_L7 l0_0 x5_1) x6_2).f2)]] rfl (by (try simp only [List.map_toArray, List.map_cons, List.map_nil]); first | done | rfl | (simp only [List.length_drop, List.length_take]; rfl)) ?_; (with_reducible refine (spec_l1Reads.calls ((rd_T85 (rd_L7 l0_0 x5_1) x6_2).f0) ((rd_T85 (rd_L7 l0_0 x5_1) x6_2).f1) ((rd_T85 (rd_L7 l0_0 x5_1) x6_2).f2) false _ A18.out).mono ?_); rintro e w25 ⟨rfl, hb⟩; refine ⟨_, rfl, ?_⟩; have n0_ := am_ (blk_below (bu BK571.out) hb); have n1_ := am_ (below_step z43_5 hb); clear BK571 HB; have BK571 := n0_; have HB := n1_; clear n0_ n1_; (try clear hb); (try clear hb2); (try clear hk); (try clear hi); have hcz26_0 : w25.cell? ⟨gb571, 0, none⟩ = some (.slice (some ad572) l0_0.length c0_0) := (blk_cell BK571.out 0).trans rfl; have hfz26_0 := blk_frozen BK571.out 0; have p579 : 0 ≤ (x5_1 : Int) := of_decide_eq_true z43_2; have q579 : x5_1 < (l0_0.length : Int) := of_decide_eq_true z43_2; obtain ⟨ad579, A579_0, c579_0, e579, hx579_0, hl579_0, hi579_0⟩ := at_L7 HR0_0.out x5_1 p579 q579; obtain rfl : ad572 = ad579 := (by injection e579); replace hx579_0 := (HB.out.cell (World.block_lt_of_cell? w _ hx579_0)).trans hx579_0; have HR579_0 := am_ hi579_0; have HC579_0 := am_ hl579_0; clear hi579_0 hl579_0; replace p579 := eq_true p579; replace q579 := eq_true q579; have p580 : 0 ≤ (x6_2 : Int) := of_decide_eq_true z43_2; have q580 : x6_2 < ((rd_L7 l0_0 x5_1).length : Int) := of_decide_eq_true z43_2; obtain ⟨ad580, e580, hx580_0, hx580_1, hx580_2⟩ := at_T85 HR579_0.out x6_2 p580 q580; cases e580; replace hx580_0 := (HB.out.cell (World.block_lt_of_cell? w _ hx580_0)).trans hx580_0; replace hx580_1 := (HB.out.cell (World.block_lt_of_cell? w _ hx580_1)).trans hx580_1; replace hx580_2 := (HB.out.cell (World.block_lt_of_cell? w _ hx580_2)).trans hx580_2; replace p580 := eq_true p580; replace q580 := eq_true q580) | (go_at_call 88; (with_reducible refine (spec_l1Writes.calls ((rd_T85 (rd_L7 l0_0 x5_1) x6_2).f0) ((rd_T85 (rd_L7 l0_0 x5_1) x6_2).f1) ((rd_T85 (rd_L7 l0_0 x5_1) x6_2).f2) true _ A22.out).mono ?_); rintro e w27 ⟨rfl, hb⟩; have n0_ := am_ (blk_below (bu BK571.out) hb); have n1_ := am_ (below_step z43_5 hb); clear BK571 HB; have BK571 := n0_; have HB := n1_; clear n0_ n1_; (try clear hb); (try clear hb2); (try clear hk); (try clear hi)))
               go_roundg k2
               case measure => have := HK1.out; have := HK2.out; omega
               case rel => exact ⟨(wrap64 (x4_2 + 1)), (wrap64 (x6_2 + 1)), z43_1, z43_1, H', ⟨by have := HK1.out; have := HK2.out; omega⟩, ⟨bu BK571.out⟩, ⟨z43_5⟩⟩
              ·replace c23 := Bool.eq_false_iff.mpr c23
               subst c23
               have H1 : (spec_ProgOk.l1 k2 (wrap64 (x3_1 + ((rd_L7 l0_0 x5_1).length : Int))) x4_2 x5_1 (wrap64 (x6_2 + 1)) l0_0) = some r := by rw [if_neg (show ¬ (false = true) by decide)] at H; exact H
               clear H
               have H := H1
               clear H1
               have H' := am_ H
               clear H
               have hcz28_0 : wr.cell? ⟨gb571, 0, none⟩ = some (.slice (some ad572) l0_0.length c0_0) := (blk_cell BK571.out 0).trans rfl
               have hfz28_0 := blk_frozen BK571.out 0
               have p575 : 0 ≤ (x5_1 : Int) := of_decide_eq_true z43_2
               have q575 : x5_1 < (l0_0.length : Int) := of_decide_eq_true z43_2
               obtain ⟨ad575, A575_0, c575_0, e575, hx575_0, hl575_0, hi575_0⟩ := at_L7 HR0_0.out x5_1 p575 q575
               obtain rfl : ad572 = ad575 := (by injection e575)
               replace hx575_0 := (HB.out.cell (World.block_lt_of_cell? w _ hx575_0)).trans hx575_0
               have HR575_0 := am_ hi575_0
               have HC575_0 := am_ hl575_0
               clear hi575_0 hl575_0
               replace p575 := eq_true p575
               replace q575 := eq_true q575
               have p576 : 0 ≤ (x5_1 : Int) := of_decide_eq_true z43_2
               have q576 : x5_1 < (l0_0.length : Int) := of_decide_eq_true z43_2
               obtain ⟨ad576, A576_0, c576_0, e576, hx576_0, hl576_0, hi576_0⟩ := at_L7 HR0_0.out x5_1 p576 q576
               obtain rfl : ad572 = ad576 := (by injection e576)
               replace hx576_0 := (HB.out.cell (World.block_lt_of_cell? w _ hx576_0)).trans hx576_0
               have HR576_0 := am_ hi576_0
               have HC576_0 := am_ hl576_0
               clear hi576_0 hl576_0
               replace p576 := eq_true p576
               replace q576 := eq_true q576
               have ea_ := Option.some.inj (hx575_0.symm.trans hx576_0)
               injection ea_ with ea_ en_ ec_
               subst ea_
               subst ec_
               clear en_
               have p577 : 0 ≤ (x6_2 : Int) := of_decide_eq_true z43_2
               have q577 : x6_2 < ((rd_L7 l0_0 x5_1).length : Int) := of_decide_eq_true z43_2
               obtain ⟨ad577, e577, hx577_0, hx577_1, hx577_2⟩ := at_T85 HR576_0.out x6_2 p577 q577
               cases e577
               replace hx577_0 := (HB.out.cell (World.block_lt_of_cell? w _ hx577_0)).trans hx577_0
               replace hx577_1 := (HB.out.cell (World.block_lt_of_cell? w _ hx577_1)).trans hx577_1
               replace hx577_2 := (HB.out.cell (World.block_lt_of_cell? w _ hx577_2)).trans hx577_2
               replace p577 := eq_true p577
               replace q577 := eq_true q577
               go_wp2_with (first | ((with_reducible refine gate_callee (f := 87) rfl ?_); refine goesL_ (some 51) rfl rfl Try.func87 (by kernel_rfl) rfl #[.agg #[.int .i64 ((rd_T85 (rd_L7 l0_0 x5_1) x6_2).f0), .int .i64 ((rd_T85 (rd_L7 l0_0 x5_1) x6_2).f1), .int .i64 ((rd_T85 (rd_L7 l0_0 x5_1) x6_2).f2)]] rfl (by (try simp only [List.map_toArray, List.map_cons, List.map_nil]); first | done | rfl | (simp only [List.length_drop, List.length_take]; rfl)) ?_; (with_reducible refine (spec_l1Reads.calls ((rd_T85 (rd_L7 l0_0 x5_1) x6_2).f0) ((rd_T85 (rd_L7 l0_0 x5_1) x6_2).f1) ((rd_T85 (rd_L7 l0_0 x5_1) x6_2).f2) false _ A18.out).mono ?_); rintro e w29 ⟨rfl, hb⟩; refine ⟨_, rfl, ?_⟩; have n0_ := am_ (blk_below (bu BK571.out) hb); have n1_ := am_ (below_step z43_5 hb); clear BK571 HB; have BK571 := n0_; have HB := n1_; clear n0_ n1_; (try clear hb); (try clear hb2); (try clear hk); (try clear hi); have hcz30_0 : w29.cell? ⟨gb571, 0, none⟩ = some (.slice (some ad572) l0_0.length c0_0) := (blk_cell BK571.out 0).trans rfl; have hfz30_0 := blk_frozen BK571.out 0; have p579 : 0 ≤ (x5_1 : Int) := of_decide_eq_true z43_2; have q579 : x5_1 < (l0_0.length : Int) := of_decide_eq_true z43_2; obtain ⟨ad579, A579_0, c579_0, e579, hx579_0, hl579_0, hi579_0⟩ := at_L7 HR0_0.out x5_1 p579 q579; obtain rfl : ad572 = ad579 := (by injection e579); replace hx579_0 := (HB.out.cell (World.block_lt_of_cell? w _ hx579_0)).trans hx579_0; have HR579_0 := am_ hi579_0; have HC579_0 := am_ hl579_0; clear hi579_0 hl579_0; replace p579 := eq_true p579; replace q579 := eq_true q579; have p580 : 0 ≤ (x6_2 : Int) := of_decide_eq_true z43_2; have q580 : x6_2 < ((rd_L7 l0_0 x5_1).length : Int) := of_decide_eq_true z43_2; obtain ⟨ad580, e580, hx580_0, hx580_1, hx580_2⟩ := at_T85 HR579_0.out x6_2 p580 q580; cases e580; replace hx580_0 := (HB.out.cell (World.block_lt_of_cell? w _ hx580_0)).trans hx580_0; replace hx580_1 := (HB.out.cell (World.block_lt_of_cell? w _ hx580_1)).trans hx580_1; replace hx580_2 := (HB.out.cell (World.block_lt_of_cell? w _ hx580_2)).trans hx580_2; replace p580 := eq_true p580; replace q580 := eq_true q580) | (go_at_call 88; (with_reducible refine (spec_l1Writes.calls ((rd_T85 (rd_L7 l0_0 x5_1) x6_2).f0) ((rd_T85 (rd_L7 l0_0 x5_1) x6_2).f1) ((rd_T85 (rd_L7 l0_0 x5_1) x6_2).f2) false _ A22.out).mono ?_); rintro e w31 ⟨rfl, hb⟩; have n0_ := am_ (blk_below (bu BK571.out) hb); have n1_ := am_ (below_step z43_5 hb); clear BK571 HB; have BK571 := n0_; have HB := n1_; clear n0_ n1_; (try clear hb); (try clear hb2); (try clear hk); (try clear hi)))
               go_roundg k2
               case measure => have := HK1.out; have := HK2.out; omega
               case rel => exact ⟨(x4_2), (wrap64 (x6_2 + 1)), z43_1, z43_1, H', ⟨by have := HK1.out; have := HK2.out; omega⟩, ⟨bu BK571.out⟩, ⟨z43_5⟩⟩
            ·rw [if_neg c17] at H
             exact absurd H (by simp)
           ·rw [if_neg c16] at H
            have c16b0 : decide (x6_2 < ((rd_L7 l0_0 x5_1).length : Int)) = false := decide_eq_false c16
            clear c16
            have H' := am_ H
            clear H
            have hcz32_0 : wr.cell? ⟨gb571, 0, none⟩ = some (.slice (some ad572) l0_0.length c0_0) := (blk_cell BK571.out 0).trans rfl
            have hfz32_0 := blk_frozen BK571.out 0
            have p575 : 0 ≤ (x5_1 : Int) := of_decide_eq_true z43_2
            have q575 : x5_1 < (l0_0.length : Int) := of_decide_eq_true z43_2
            obtain ⟨ad575, A575_0, c575_0, e575, hx575_0, hl575_0, hi575_0⟩ := at_L7 HR0_0.out x5_1 p575 q575
            obtain rfl : ad572 = ad575 := (by injection e575)
            replace hx575_0 := (HB.out.cell (World.block_lt_of_cell? w _ hx575_0)).trans hx575_0
            have HR575_0 := am_ hi575_0
            have HC575_0 := am_ hl575_0
            clear hi575_0 hl575_0
            replace p575 := eq_true p575
            replace q575 := eq_true q575
            go_wp2
            go_roundg k2
            case measure => have := HK1.out; have := HK2.out; omega
            case rel => exact ⟨((wrap64 (x3_1 + ((rd_L7 l0_0 x5_1).length : Int)))), (x4_2), (wrap64 (x5_1 + 1)), z43_1, z43_1, z43_1, H', ⟨by have := HK1.out; have := HK2.out; omega⟩, ⟨bu BK571.out⟩, ⟨z43_5⟩⟩
          ·rw [if_neg c15] at H
           exact absurd H (by simp)
         ·rw [if_neg c14] at H
          exact absurd H (by simp)
      ·replace c10 := Bool.eq_false_iff.mpr c10
       subst c10
       have H1 : (some false) = some r := by rw [if_neg (show ¬ (false = true) by decide)] at H; exact H
       clear H
       have H := H1
       clear H1
       obtain rfl := Option.some.inj H
       have hcz33_0 : wr.cell? ⟨gb571, 0, none⟩ = some (.slice A0_0 l0_0.length c0_0) := (blk_cell BK571.out 0).trans rfl
       have hfz33_0 := blk_frozen BK571.out 0
       have p572 : 0 ≤ (x5_1 : Int) := of_decide_eq_true z43_2
       have q572 : x5_1 < (l0_0.length : Int) := of_decide_eq_true z43_2
       obtain ⟨ad572, A572_0, c572_0, e572, hx572_0, hl572_0, hi572_0⟩ := at_L7 HR0_0.out x5_1 p572 q572
       cases e572
       replace hx572_0 := (HB.out.cell (World.block_lt_of_cell? w _ hx572_0)).trans hx572_0
       have HR572_0 := am_ hi572_0
       have HC572_0 := am_ hl572_0
       clear hi572_0 hl572_0
       replace p572 := eq_true p572
       replace q572 := eq_true q572
       go_wp2_with (first | ((with_reducible refine gate_callee (f := 93) rfl ?_); refine goesL_ (some 23) rfl rfl Try.func93 (by kernel_rfl) rfl #[.slice A572_0 (rd_L7 l0_0 x5_1).length c572_0] rfl (by (try simp only [List.map_toArray, List.map_cons, List.map_nil]); first | done | rfl | (simp only [List.length_drop, List.length_take]; rfl)) ?_; (with_reducible refine (spec_l1Thread.calls k1 _ _ (rd_L7 l0_0 x5_1) false _ ?side1 ?side2 A9.out).mono ?_); (case side1 => repeat (first | exact (Kd.C_below HR572_0.out HB.out) | (with_reducible refine Kd.C_alloc ?_ _) | (with_reducible refine Kd.C_drewN ?_ _) | (with_reducible refine Kd.C_drew ?_))); (case side2 => exact HC572_0.out); rintro e w34 ⟨rfl, hb⟩; refine ⟨_, rfl, ?_⟩; have n0_ := am_ (blk_below (bu BK571.out) hb); have n1_ := am_ (below_step z43_5 hb); clear BK571 HB; have BK571 := n0_; have HB := n1_; clear n0_ n1_; (try clear hb); (try clear hb2); (try clear hk); (try clear hi)))
       go_ret
       exact ⟨z43_3, z43_5⟩
     ·rw [if_neg c8] at H
      exact absurd H (by simp)
    ·rw [if_neg c7] at H
     have c7b0 : decide (x5_1 < (l0_0.length : Int)) = false := decide_eq_false c7
     clear c7
     by_cases c35 : x3_1 ≤ 14
     ·rw [if_pos c35] at H
      have c35b0 : decide (x3_1 ≤ 14) = true := decide_eq_true c35
      clear c35
      obtain rfl := Option.some.inj H
      have hcz36_0 : wr.cell? ⟨gb571, 0, none⟩ = some (.slice A0_0 l0_0.length c0_0) := (blk_cell BK571.out 0).trans rfl
      have hfz36_0 := blk_frozen BK571.out 0
      go_wp2
      go_ret
      exact ⟨z43_3, z43_5⟩
     ·rw [if_neg c35] at H
      have c35b0 : decide (x3_1 ≤ 14) = false := decide_eq_false c35
      clear c35
      obtain rfl := Option.some.inj H
      have hcz37_0 : wr.cell? ⟨gb571, 0, none⟩ = some (.slice A0_0 l0_0.length c0_0) := (blk_cell BK571.out 0).trans rfl
      have hfz37_0 := blk_frozen BK571.out 0
      go_wp2
      go_ret
      exact ⟨z43_3, z43_5⟩

end Go.Proofs.Ytefkbmhkhpekjaa.PB

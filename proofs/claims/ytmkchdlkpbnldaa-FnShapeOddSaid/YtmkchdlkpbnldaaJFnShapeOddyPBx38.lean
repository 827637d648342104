-- Written by this session's wip/myprint.py (the kit's print.py, with hand-written chunks). Lean checks it.
import Derived.Test.YtmkchdlkpbnldaaPBx0
import Derived.Test.YtmkchdlkpbnldaaPBx34
import Derived.Test.YtmkchdlkpbnldaaJFnShapeOddx2
import Derived.Test.YtmkchdlkpbnldaaJFnShapeOddyPBx47
namespace Go.Proofs.Ytmkchdlkpbnldaa.PB
open Go.RowKit Go.Proofs.YtmkchdlkpbnldaaW.PrintWords Go.Proofs.YtmkchdlkpbnldaaW.PrintLast Go.Proofs.YtmkchdlkpbnldaaW.PrintMore
attribute [local go_sem] max2_int min2_int max_two min_two max_three min_three max_four min_four   -- for this text's walks alone
open Go.Proofs.YtmkchdlkpbnldaaMine
set_option linter.unusedVariables false
set_option linter.unusedSimpArgs false

theorem z38_1 {p : Prop} (h : p := by first | rfl | (simp; done) | (simp [*]; done)) : p := h
theorem z38_2 {p : Prop} (h : p := by first | (with_reducible assumption) | assumption) : p := h
theorem z38_3 {p : Prop} (h : p := by first | rfl | (simp [errW_none, errW_some] <;> rfl) | (simp [*, errW_none, errW_some] <;> rfl)) : p := h
theorem z38_4 {p : Prop} (h : p := by repeat (first | (with_reducible first | exact HB.out | apply below_alloc | apply pw_below_drewN | apply below_drew1) | exact HB.out)) : p := h
theorem z38_5 {p : Prop} (h : p := by repeat (first | (with_reducible first | exact HB.out | apply below_alloc | apply pw_below_drewN | apply below_drew1 | refine below_set ?_ GE433.out) | exact HB.out)) : p := h
theorem z38_6 {p : Prop} (h : p := by repeat (first | (with_reducible first | exact HB.out | apply below_alloc | apply pw_below_drewN | apply below_drew1 | refine below_set ?_ GE433.out | refine below_set ?_ GE434.out) | exact HB.out)) : p := h
theorem z38_7 {p : Prop} (h : p := by repeat (first | (with_reducible first | exact HB.out | apply below_alloc | apply pw_below_drewN | apply below_drew1 | refine below_set ?_ GE433.out | refine below_set ?_ GE434.out | refine below_set ?_ GE437.out) | exact HB.out)) : p := h
theorem z38_8 {p : Prop} (h : p := by (with_reducible repeat (first | refine blk_drewN ?_ _ | refine blk_drew ?_ | refine blk_alloc ?_ _)); refine blk_far ?_ NB433_437.out _; (with_reducible repeat (first | refine blk_drewN ?_ _ | refine blk_drew ?_ | refine blk_alloc ?_ _)); refine blk_far ?_ NB433_437.out _; (with_reducible repeat (first | refine blk_drewN ?_ _ | refine blk_drew ?_ | refine blk_alloc ?_ _)); refine blk_far ?_ NB433_437.out _; (with_reducible repeat (first | refine blk_drewN ?_ _ | refine blk_drew ?_ | refine blk_alloc ?_ _)); exact BK433.out) : p := h
theorem z38_9 {p : Prop} (h : p := by (with_reducible repeat (first | refine blk_drewN ?_ _ | refine blk_drew ?_ | refine blk_alloc ?_ _)); refine blk_far ?_ NB434_437.out _; (with_reducible repeat (first | refine blk_drewN ?_ _ | refine blk_drew ?_ | refine blk_alloc ?_ _)); refine blk_far ?_ NB434_437.out _; (with_reducible repeat (first | refine blk_drewN ?_ _ | refine blk_drew ?_ | refine blk_alloc ?_ _)); refine blk_far ?_ NB434_437.out _; (with_reducible repeat (first | refine blk_drewN ?_ _ | refine blk_drew ?_ | refine blk_alloc ?_ _)); exact BK434.out) : p := h
theorem z38_10 {p : Prop} (h : p := by (with_reducible repeat (first | refine blk_drewN ?_ _ | refine blk_drew ?_ | refine blk_alloc ?_ _)); refine blk_put (cs := #[.int .i64 ((rd_T70 l0_2 x16_1).f0), .int .i64 ((rd_T70 l0_2 x16_1).f1), .int .i64 0]) ?_ 2 _ rfl; (with_reducible repeat (first | refine blk_drewN ?_ _ | refine blk_drew ?_ | refine blk_alloc ?_ _)); refine blk_put (cs := #[.int .i64 ((rd_T70 l0_2 x16_1).f0), .int .i64 0, .int .i64 0]) ?_ 1 _ rfl; (with_reducible repeat (first | refine blk_drewN ?_ _ | refine blk_drew ?_ | refine blk_alloc ?_ _)); refine blk_put (cs := #[.int .i64 0, .int .i64 0, .int .i64 0]) ?_ 0 _ rfl; (with_reducible repeat (first | refine blk_drewN ?_ _ | refine blk_drew ?_ | refine blk_alloc ?_ _)); exact BK437.out) : p := h
/-! ### impl_scene_ok: function 38 -/
def impl_scene_ok.l0 : Nat → List (S70) → Int → Int → List (List (S70)) → List (S80) → List (S70) → List Int → List (List Int) → Option (Bool)
  | 0, _, _, _, _, _, _, _, _ => none
  | k + 1, x14, x15, x16, x00, x01, x02, x03, x04 => if x16 < x15 then (if 0 ≤ x16 then (if x16 < (x14.length : Int) then ((impl_Do_uses.f ((rd_T70 x14 x16).f0) ((rd_T70 x14 x16).f1) ((rd_T70 x14 x16).f2)).bind fun t438 => (if t438 = true then ((impl_scene_value.f k x00 x01 x02 x03 x04 x16).bind fun bt439 => (if bt439.2 = true then (impl_scene_ok.l0 k x14 x15 (wrap64 (x16 + 1)) x00 x01 x02 x03 x04) else (some false))) else (impl_scene_ok.l0 k x14 x15 (wrap64 (x16 + 1)) x00 x01 x02 x03 x04))) else (none)) else (none)) else (some true)
def impl_scene_ok.f (k : Nat) (l0_0 : List (List (S70))) (l0_1 : List (S80)) (l0_2 : List (S70)) (l1_0 : List Int) (l1_1 : List (List Int)) : Option (Bool) := (impl_scene_fits.f k l0_0 l0_1 l0_2 l1_0 l1_1).bind fun t435 => (if t435 = true then (impl_scene_ok.l0 k l0_2 (l0_2.length : Int) 0 l0_0 l0_1 l0_2 l1_0 l1_1) else (some false))
set_option maxHeartbeats 8000000 in
set_option maxRecDepth 100000 in
theorem impl_scene_ok.calls (k : Nat) (A0_0 : Option Addr) (c0_0 : Nat) (l0_0 : List (List (S70))) (A0_1 : Option Addr) (c0_1 : Nat) (l0_1 : List (S80)) (A0_2 : Option Addr) (c0_2 : Nat) (l0_2 : List (S70)) (A1_0 : Option Addr) (c1_0 : Nat) (l1_0 : List Int) (A1_1 : Option Addr) (c1_1 : Nat) (l1_1 : List (List Int)) (r : Bool) (w : World) (hr0_0 : Kd.C (Kd.slice 70 k70) w A0_0 l0_0.length l0_0) (hc0_0 : l0_0.length ≤ c0_0) (hr0_1 : Kd.C k80 w A0_1 l0_1.length l0_1) (hc0_1 : l0_1.length ≤ c0_1) (hr0_2 : Kd.C k70 w A0_2 l0_2.length l0_2) (hc0_2 : l0_2.length ≤ c0_2) (hr1_0 : Kd.C (Kd.int .i64) w A1_0 l1_0.length l1_0) (hc1_0 : l1_0.length ≤ c1_0) (hr1_1 : Kd.C (Kd.slice 3 (Kd.int .i64)) w A1_1 l1_1.length l1_1) (hc1_1 : l1_1.length ≤ c1_1) (h : impl_scene_ok.f k l0_0 l0_1 l0_2 l1_0 l1_1 = some r) :
  Calls Try.prog 38 #[.agg #[.slice A0_0 l0_0.length c0_0, .slice A0_1 l0_1.length c0_1, .slice A0_2 l0_2.length c0_2], .agg #[.slice A1_0 l1_0.length c1_0, .slice A1_1 l1_1.length c1_1]] w fun e w' => e = .returned (.bool r) ∧ Below w.heap.size w w' := by
 have hu60 := Try.underlying60
 have hu40 := Try.underlying40
 have hu70 := Try.underlying70
 have HR0_0 := am_ hr0_0
 have HC0_0 := am_ hc0_0
 clear hr0_0 hc0_0
 have HR0_1 := am_ hr0_1
 have HC0_1 := am_ hc0_1
 clear hr0_1 hc0_1
 have HR0_2 := am_ hr0_2
 have HC0_2 := am_ hc0_2
 clear hr0_2 hc0_2
 have HR1_0 := am_ hr1_0
 have HC1_0 := am_ hc1_0
 clear hr1_0 hc1_0
 have HR1_1 := am_ hr1_1
 have HC1_1 := am_ hc1_1
 clear hr1_1 hc1_1
 have HB := am_ (Below.refl w.heap.size w)
 have H : ((impl_scene_fits.f k l0_0 l0_1 l0_2 l1_0 l1_1).bind fun t435 => (if t435 = true then (impl_scene_ok.l0 k l0_2 (l0_2.length : Int) 0 l0_0 l0_1 l0_2 l1_0 l1_1) else (some false))) = some r := h
 clear h
 replace H := Option.bind_eq_some_iff.mp H
 obtain ⟨t435, A30, H⟩ := H
 replace H : (if t435 = true then (impl_scene_ok.l0 k l0_2 (l0_2.length : Int) 0 l0_0 l0_1 l0_2 l1_0 l1_1) else (some false)) = some r := H
 have A3 := am_ A30
 clear A30
 by_cases c4 : t435 = true
 ·subst c4
  have H1 : (impl_scene_ok.l0 k l0_2 (l0_2.length : Int) 0 l0_0 l0_1 l0_2 l1_0 l1_1) = some r := by rw [if_pos rfl] at H; exact H
  clear H
  have H := H1
  clear H1
  have H' := am_ H
  clear H
  go_enter Try.func38, Try.ntmps38
  go_wp2_with (first | ((with_reducible refine gate_dst (N := 2) rfl ?_); refine box_event ?hg (N := 2) ?hd (cs := #[.slice A0_0 l0_0.length c0_0, .slice A0_1 l0_1.length c0_1, .slice A0_2 l0_2.length c0_2]) (t := 60) ?hr ?_; (case hd => rfl); (case hg => rfl); (case hr => first | (go_simp; done) | (go_simp; rfl)); intro gb433 hg w5 hbox hb; have n0_ := am_ (below_step z38_4 hb); have n1_ := am_ (hbox); have n2_ := am_ (by rw [hg]; exact (below_size z38_4) : w.heap.size ≤ gb433); have n3_ := am_ (by rw [hg]; exact (below_size z38_4) : w.heap.size ≤ gb433); clear HB; have HB := n0_; have BK433 := n1_; have GW433 := n2_; have GE433 := n3_; clear n0_ n1_ n2_ n3_; clear hb hbox hg) | ((with_reducible refine gate_dst (N := 3) rfl ?_); refine box_event ?hg (N := 3) ?hd (cs := #[.slice A1_0 l1_0.length c1_0, .slice A1_1 l1_1.length c1_1]) (t := 40) ?hr ?_; (case hd => rfl); (case hg => rfl); (case hr => first | (go_simp; done) | (go_simp; rfl)); intro gb434 hg w6 hbox hb; have n0_ := am_ (blk_below (bu BK433.out) hb); have n1_ := am_ (below_step z38_5 hb); have n2_ := am_ (hbox); have n3_ := am_ (by rw [hg]; exact (below_size z38_5) : w.heap.size ≤ gb434); have n4_ := am_ (by rw [hg]; exact (below_size z38_5) : w.heap.size ≤ gb434); have n5_ := am_ (by rw [hg]; exact Nat.ne_of_lt (blk_lt (bu BK433.out)) : gb433 ≠ gb434); have n6_ := am_ (by rw [hg]; exact Nat.ne_of_gt (blk_lt (bu BK433.out)) : gb434 ≠ gb433); clear BK433 HB; have BK433 := n0_; have HB := n1_; have BK434 := n2_; have GW434 := n3_; have GE434 := n4_; have NB433_434 := n5_; have NB434_433 := n6_; clear n0_ n1_ n2_ n3_ n4_ n5_ n6_; clear hb hbox hg; have hnb7 := NB433_434.out; have hnc7 := NB434_433.out; have hcz8_0 := cf0 BK433.out; have hcz8_1 := cf1 BK433.out; have hcz8_2 := cf2 BK433.out; have hfz8_0 := blk_frozen BK433.out 0; have hfz8_1 := blk_frozen BK433.out 1; have hfz8_2 := blk_frozen BK433.out 2; have hcz9_0 := cf0 BK434.out; have hcz9_1 := cf1 BK434.out; have hfz9_0 := blk_frozen BK434.out 0; have hfz9_1 := blk_frozen BK434.out 1) | ((with_reducible refine gate_callee (f := 47) rfl ?_); refine goesL_ (some 11) rfl rfl Try.func47 (by kernel_rfl) rfl #[.agg #[.slice A0_0 l0_0.length c0_0, .slice A0_1 l0_1.length c0_1, .slice A0_2 l0_2.length c0_2], .agg #[.slice A1_0 l1_0.length c1_0, .slice A1_1 l1_1.length c1_1]] rfl (by (try simp only [List.map_toArray, List.map_cons, List.map_nil]); first | done | rfl | (simp only [List.length_drop, List.length_take]; rfl)) ?_; (with_reducible refine (impl_scene_fits.calls k _ _ l0_0 _ _ l0_1 _ _ l0_2 _ _ l1_0 _ _ l1_1 true _ ?side1 ?side2 ?side3 ?side4 ?side5 ?side6 ?side7 ?side8 ?side9 ?side10 A3.out).mono ?_); (case side1 => repeat (first | exact (Kd.C_below HR0_0.out HB.out) | (with_reducible refine Kd.C_alloc ?_ _) | (with_reducible refine Kd.C_drewN ?_ _) | (with_reducible refine Kd.C_drew ?_))); (case side2 => exact HC0_0.out); (case side3 => repeat (first | exact (Kd.C_below HR0_1.out HB.out) | (with_reducible refine Kd.C_alloc ?_ _) | (with_reducible refine Kd.C_drewN ?_ _) | (with_reducible refine Kd.C_drew ?_))); (case side4 => exact HC0_1.out); (case side5 => repeat (first | exact (Kd.C_below HR0_2.out HB.out) | (with_reducible refine Kd.C_alloc ?_ _) | (with_reducible refine Kd.C_drewN ?_ _) | (with_reducible refine Kd.C_drew ?_))); (case side6 => exact HC0_2.out); (case side7 => repeat (first | exact (Kd.C_below HR1_0.out HB.out) | (with_reducible refine Kd.C_alloc ?_ _) | (with_reducible refine Kd.C_drewN ?_ _) | (with_reducible refine Kd.C_drew ?_))); (case side8 => exact HC1_0.out); (case side9 => repeat (first | exact (Kd.C_below HR1_1.out HB.out) | (with_reducible refine Kd.C_alloc ?_ _) | (with_reducible refine Kd.C_drewN ?_ _) | (with_reducible refine Kd.C_drew ?_))); (case side10 => exact HC1_1.out); rintro e w10 ⟨rfl, hb⟩; refine ⟨_, rfl, ?_⟩; replace BK433 := am_ (blk_below (bu BK433.out) hb); replace BK434 := am_ (blk_below (bu BK434.out) hb); replace HB := am_ (below_step z38_6 hb); (try clear hb); (try clear hb2); (try clear hk); (try clear hi); have hcz11_0 := cf0 BK433.out; have hcz11_1 := cf1 BK433.out; have hcz11_2 := cf2 BK433.out; have hfz11_0 := blk_frozen BK433.out 0; have hfz11_1 := blk_frozen BK433.out 1; have hfz11_2 := blk_frozen BK433.out 2))
  go_loopg [16] k (fun kq v16 w' => ∃ (x16_1 : Int), v16 = .int .i64 x16_1 ∧ Aside0 (impl_scene_ok.l0 kq l0_2 (l0_2.length : Int) x16_1 l0_0 l0_1 l0_2 l1_0 l1_1 = some r) ∧ Aside0 (kq ≤ k) ∧ Aside0 (w'.heap[gb433]? = some (.cells #[(.slice A0_0 l0_0.length c0_0), (.slice A0_1 l0_1.length c0_1), (.slice A0_2 l0_2.length c0_2)] 60 (0, 0))) ∧ Aside0 (w'.heap[gb434]? = some (.cells #[(.slice A1_0 l1_0.length c1_0), (.slice A1_1 l1_1.length c1_1)] 40 (0, 0))) ∧ Aside0 (Below w.heap.size w w'))
  case atStart => exact ⟨(0), z38_1, H', ⟨Nat.le_refl _⟩, ⟨bu BK433.out⟩, ⟨bu BK434.out⟩, ⟨z38_6⟩⟩
  case round =>
   clear H'
   obtain ⟨x16_1, rfl, HA, HK1, BK433, BK434, HB⟩ := hrel
   cases gk with
   | zero => exact absurd HA.out (by simp [impl_scene_ok.l0])
   | succ k1 =>
    have H := HA.out
    clear HA
    simp only [impl_scene_ok.l0] at H
    by_cases c12 : x16_1 < (l0_2.length : Int)
    ·rw [if_pos c12] at H
     have c12b0 : decide (x16_1 < (l0_2.length : Int)) = true := decide_eq_true c12
     clear c12
     by_cases c13 : 0 ≤ x16_1
     ·rw [if_pos c13] at H
      have c13b0 : decide (0 ≤ x16_1) = true := decide_eq_true c13
      clear c13
      by_cases c14 : x16_1 < (l0_2.length : Int)
      ·rw [if_pos c14] at H
       have c14b0 : decide (x16_1 < (l0_2.length : Int)) = true := decide_eq_true c14
       clear c14
       replace H := Option.bind_eq_some_iff.mp H
       obtain ⟨t438, A150, H⟩ := H
       replace H : (if t438 = true then ((impl_scene_value.f k1 l0_0 l0_1 l0_2 l1_0 l1_1 x16_1).bind fun bt439 => (if bt439.2 = true then (impl_scene_ok.l0 k1 l0_2 (l0_2.length : Int) (wrap64 (x16_1 + 1)) l0_0 l0_1 l0_2 l1_0 l1_1) else (some false))) else (impl_scene_ok.l0 k1 l0_2 (l0_2.length : Int) (wrap64 (x16_1 + 1)) l0_0 l0_1 l0_2 l1_0 l1_1)) = some r := H
       have A15 := am_ A150
       clear A150
       by_cases c16 : t438 = true
       ·subst c16
        have H1 : ((impl_scene_value.f k1 l0_0 l0_1 l0_2 l1_0 l1_1 x16_1).bind fun bt439 => (if bt439.2 = true then (impl_scene_ok.l0 k1 l0_2 (l0_2.length : Int) (wrap64 (x16_1 + 1)) l0_0 l0_1 l0_2 l1_0 l1_1) else (some false))) = some r := by rw [if_pos rfl] at H; exact H
        clear H
        have H := H1
        clear H1
        replace H := Option.bind_eq_some_iff.mp H
        obtain ⟨⟨t439, t440⟩, A170, H⟩ := H
        replace H : (if t440 = true then (impl_scene_ok.l0 k1 l0_2 (l0_2.length : Int) (wrap64 (x16_1 + 1)) l0_0 l0_1 l0_2 l1_0 l1_1) else (some false)) = some r := H
        have A17 := am_ A170
        clear A170
        by_cases c18 : t440 = true
        ·subst c18
         have H1 : (impl_scene_ok.l0 k1 l0_2 (l0_2.length : Int) (wrap64 (x16_1 + 1)) l0_0 l0_1 l0_2 l1_0 l1_1) = some r := by rw [if_pos rfl] at H; exact H
         clear H
         have H := H1
         clear H1
         have H' := am_ H
         clear H
         have p436 : 0 ≤ (x16_1 : Int) := of_decide_eq_true z38_2
         have q436 : x16_1 < (l0_2.length : Int) := of_decide_eq_true z38_2
         obtain ⟨ad436, e436, hx436_0, hx436_1, hx436_2⟩ := at_T70 HR0_2.out x16_1 p436 q436
         cases e436
         replace hx436_0 := (HB.out.cell (World.block_lt_of_cell? w _ hx436_0)).trans hx436_0
         replace hx436_1 := (HB.out.cell (World.block_lt_of_cell? w _ hx436_1)).trans hx436_1
         replace hx436_2 := (HB.out.cell (World.block_lt_of_cell? w _ hx436_2)).trans hx436_2
         replace p436 := eq_true p436
         replace q436 := eq_true q436
         go_wp2_with (first | ((with_reducible refine gate_dst (N := 6) rfl ?_); refine box_event ?hg (N := 6) ?hd (cs := #[.int .i64 0, .int .i64 0, .int .i64 0]) (t := 70) ?hr ?_; (case hd => rfl); (case hg => rfl); (case hr => first | (go_simp; done) | (go_simp; rfl)); intro gb437 hg w19 hbox hb; have n0_ := am_ (blk_below (bu BK433.out) hb); have n1_ := am_ (blk_below (bu BK434.out) hb); have n2_ := am_ (below_step z38_6 hb); have n3_ := am_ (hbox); have n4_ := am_ (by rw [hg]; exact (below_size z38_6) : w.heap.size ≤ gb437); have n5_ := am_ (by rw [hg]; exact (below_size z38_6) : w.heap.size ≤ gb437); have n6_ := am_ (by rw [hg]; exact Nat.ne_of_lt (blk_lt (bu BK433.out)) : gb433 ≠ gb437); have n7_ := am_ (by rw [hg]; exact Nat.ne_of_gt (blk_lt (bu BK433.out)) : gb437 ≠ gb433); have n8_ := am_ (by rw [hg]; exact Nat.ne_of_lt (blk_lt (bu BK434.out)) : gb434 ≠ gb437); have n9_ := am_ (by rw [hg]; exact Nat.ne_of_gt (blk_lt (bu BK434.out)) : gb437 ≠ gb434); clear BK433 BK434 HB; have BK433 := n0_; have BK434 := n1_; have HB := n2_; have BK437 := n3_; have GW437 := n4_; have GE437 := n5_; have NB433_437 := n6_; have NB437_433 := n7_; have NB434_437 := n8_; have NB437_434 := n9_; clear n0_ n1_ n2_ n3_ n4_ n5_ n6_ n7_ n8_ n9_; clear hb hbox hg; have hnb20 := NB437_433.out; have hnc20 := NB433_437.out; have hnb21 := NB437_434.out; have hnc21 := NB434_437.out; have hcz22_0 := cf0 BK437.out; have hcz22_1 := cf1 BK437.out; have hcz22_2 := cf2 BK437.out; have hfz22_0 := blk_frozen BK437.out 0; have hfz22_1 := blk_frozen BK437.out 1; have hfz22_2 := blk_frozen BK437.out 2) | ((with_reducible refine gate_callee (f := 34) rfl ?_); refine goesL_ (some 22) rfl rfl Try.func34 (by kernel_rfl) rfl #[.agg #[.int .i64 ((rd_T70 l0_2 x16_1).f0), .int .i64 ((rd_T70 l0_2 x16_1).f1), .int .i64 ((rd_T70 l0_2 x16_1).f2)]] rfl (by (try simp only [List.map_toArray, List.map_cons, List.map_nil]); first | done | rfl | (simp only [List.length_drop, List.length_take]; rfl)) ?_; (with_reducible refine (impl_Do_uses.calls ((rd_T70 l0_2 x16_1).f0) ((rd_T70 l0_2 x16_1).f1) ((rd_T70 l0_2 x16_1).f2) true _ A15.out).mono ?_); rintro e w23 ⟨rfl, hb⟩; refine ⟨_, rfl, ?_⟩; replace BK433 := am_ (blk_below (g := gb433) (o := .cells #[.slice A0_0 l0_0.length c0_0, .slice A0_1 l0_1.length c0_1, .slice (some ad436) l0_2.length c0_2] 60 (0, 0)) z38_8 hb); replace BK434 := am_ (blk_below (g := gb434) (o := .cells #[.slice A1_0 l1_0.length c1_0, .slice A1_1 l1_1.length c1_1] 40 (0, 0)) z38_9 hb); replace BK437 := am_ (blk_below (g := gb437) (o := .cells #[.int .i64 ((rd_T70 l0_2 x16_1).f0), .int .i64 ((rd_T70 l0_2 x16_1).f1), .int .i64 ((rd_T70 l0_2 x16_1).f2)] 70 (0, 0)) z38_10 hb); replace HB := am_ (below_step z38_7 hb); (try clear hb); (try clear hb2); (try clear hk); (try clear hi); have hnb24 := NB433_434.out; have hnc24 := NB434_433.out; have hcz25_0 := cf0 BK433.out; have hcz25_1 := cf1 BK433.out; have hcz25_2 := cf2 BK433.out; have hfz25_0 := blk_frozen BK433.out 0; have hfz25_1 := blk_frozen BK433.out 1; have hfz25_2 := blk_frozen BK433.out 2; have hcz26_0 := cf0 BK434.out; have hcz26_1 := cf1 BK434.out; have hfz26_0 := blk_frozen BK434.out 0; have hfz26_1 := blk_frozen BK434.out 1) | ((with_reducible refine gate_callee (f := 39) rfl ?_); refine goesL_ (some 28) rfl rfl Try.func39 (by kernel_rfl) rfl #[.agg #[.slice A0_0 l0_0.length c0_0, .slice A0_1 l0_1.length c0_1, .slice (some ad436) l0_2.length c0_2], .agg #[.slice A1_0 l1_0.length c1_0, .slice A1_1 l1_1.length c1_1], .int .i64 x16_1] rfl (by (try simp only [List.map_toArray, List.map_cons, List.map_nil]); first | done | rfl | (simp only [List.length_drop, List.length_take]; rfl)) ?_; (with_reducible refine (impl_scene_value.calls k1 _ _ l0_0 _ _ l0_1 _ _ l0_2 _ _ l1_0 _ _ l1_1 x16_1 t439 true _ ?side1 ?side2 ?side3 ?side4 ?side5 ?side6 ?side7 ?side8 ?side9 ?side10 A17.out).mono ?_); (case side1 => repeat (first | exact (Kd.C_below HR0_0.out HB.out) | (with_reducible refine Kd.C_alloc ?_ _) | (with_reducible refine Kd.C_drewN ?_ _) | (with_reducible refine Kd.C_drew ?_))); (case side2 => exact HC0_0.out); (case side3 => repeat (first | exact (Kd.C_below HR0_1.out HB.out) | (with_reducible refine Kd.C_alloc ?_ _) | (with_reducible refine Kd.C_drewN ?_ _) | (with_reducible refine Kd.C_drew ?_))); (case side4 => exact HC0_1.out); (case side5 => repeat (first | exact (Kd.C_below HR0_2.out HB.out) | (with_reducible refine Kd.C_alloc ?_ _) | (with_reducible refine Kd.C_drewN ?_ _) | (with_reducible refine Kd.C_drew ?_))); (case side6 => exact HC0_2.out); (case side7 => repeat (first | exact (Kd.C_below HR1_0.out HB.out) | (with_reducible refine Kd.C_alloc ?_ _) | (with_reducible refine Kd.C_drewN ?_ _) | (with_reducible refine Kd.C_drew ?_))); (case side8 => exact HC1_0.out); (case side9 => repeat (first | exact (Kd.C_below HR1_1.out HB.out) | (with_reducible refine Kd.C_alloc ?_ _) | (with_reducible refine Kd.C_drewN ?_ _) | (with_reducible refine Kd.C_drew ?_))); (case side10 => exact HC1_1.out); rintro e w27 ⟨rfl, hb⟩; refine ⟨_, rfl, ?_⟩; replace BK433 := am_ (blk_below (bu BK433.out) hb); replace BK434 := am_ (blk_below (bu BK434.out) hb); replace BK437 := am_ (blk_below (bu BK437.out) hb); replace HB := am_ (below_step z38_7 hb); (try clear hb); (try clear hb2); (try clear hk); (try clear hi)))
         go_roundg k1
         case measure => have := HK1.out; omega
         case rel => exact ⟨(wrap64 (x16_1 + 1)), z38_1, H', ⟨by have := HK1.out; omega⟩, ⟨bu BK433.out⟩, ⟨bu BK434.out⟩, ⟨z38_7⟩⟩
        replace c18 := Bool.eq_false_iff.mpr c18
        subst c18
        have H1 : (some false) = some r := by rw [if_neg (show ¬ (false = true) by decide)] at H; exact H
        clear H
        have H := H1
        clear H1
        obtain rfl := Option.some.inj H
        have p436 : 0 ≤ (x16_1 : Int) := of_decide_eq_true z38_2
        have q436 : x16_1 < (l0_2.length : Int) := of_decide_eq_true z38_2
        obtain ⟨ad436, e436, hx436_0, hx436_1, hx436_2⟩ := at_T70 HR0_2.out x16_1 p436 q436
        cases e436
        replace hx436_0 := (HB.out.cell (World.block_lt_of_cell? w _ hx436_0)).trans hx436_0
        replace hx436_1 := (HB.out.cell (World.block_lt_of_cell? w _ hx436_1)).trans hx436_1
        replace hx436_2 := (HB.out.cell (World.block_lt_of_cell? w _ hx436_2)).trans hx436_2
        replace p436 := eq_true p436
        replace q436 := eq_true q436
        go_wp2_with (first | ((with_reducible refine gate_dst (N := 6) rfl ?_); refine box_event ?hg (N := 6) ?hd (cs := #[.int .i64 0, .int .i64 0, .int .i64 0]) (t := 70) ?hr ?_; (case hd => rfl); (case hg => rfl); (case hr => first | (go_simp; done) | (go_simp; rfl)); intro gb437 hg w28 hbox hb; have n0_ := am_ (blk_below (bu BK433.out) hb); have n1_ := am_ (blk_below (bu BK434.out) hb); have n2_ := am_ (below_step z38_6 hb); have n3_ := am_ (hbox); have n4_ := am_ (by rw [hg]; exact (below_size z38_6) : w.heap.size ≤ gb437); have n5_ := am_ (by rw [hg]; exact (below_size z38_6) : w.heap.size ≤ gb437); have n6_ := am_ (by rw [hg]; exact Nat.ne_of_lt (blk_lt (bu BK433.out)) : gb433 ≠ gb437); have n7_ := am_ (by rw [hg]; exact Nat.ne_of_gt (blk_lt (bu BK433.out)) : gb437 ≠ gb433); have n8_ := am_ (by rw [hg]; exact Nat.ne_of_lt (blk_lt (bu BK434.out)) : gb434 ≠ gb437); have n9_ := am_ (by rw [hg]; exact Nat.ne_of_gt (blk_lt (bu BK434.out)) : gb437 ≠ gb434); clear BK433 BK434 HB; have BK433 := n0_; have BK434 := n1_; have HB := n2_; have BK437 := n3_; have GW437 := n4_; have GE437 := n5_; have NB433_437 := n6_; have NB437_433 := n7_; have NB434_437 := n8_; have NB437_434 := n9_; clear n0_ n1_ n2_ n3_ n4_ n5_ n6_ n7_ n8_ n9_; clear hb hbox hg; have hnb29 := NB437_433.out; have hnc29 := NB433_437.out; have hnb30 := NB437_434.out; have hnc30 := NB434_437.out; have hcz31_0 := cf0 BK437.out; have hcz31_1 := cf1 BK437.out; have hcz31_2 := cf2 BK437.out; have hfz31_0 := blk_frozen BK437.out 0; have hfz31_1 := blk_frozen BK437.out 1; have hfz31_2 := blk_frozen BK437.out 2) | ((with_reducible refine gate_callee (f := 34) rfl ?_); refine goesL_ (some 22) rfl rfl Try.func34 (by kernel_rfl) rfl #[.agg #[.int .i64 ((rd_T70 l0_2 x16_1).f0), .int .i64 ((rd_T70 l0_2 x16_1).f1), .int .i64 ((rd_T70 l0_2 x16_1).f2)]] rfl (by (try simp only [List.map_toArray, List.map_cons, List.map_nil]); first | done | rfl | (simp only [List.length_drop, List.length_take]; rfl)) ?_; (with_reducible refine (impl_Do_uses.calls ((rd_T70 l0_2 x16_1).f0) ((rd_T70 l0_2 x16_1).f1) ((rd_T70 l0_2 x16_1).f2) true _ A15.out).mono ?_); rintro e w32 ⟨rfl, hb⟩; refine ⟨_, rfl, ?_⟩; replace BK433 := am_ (blk_below (g := gb433) (o := .cells #[.slice A0_0 l0_0.length c0_0, .slice A0_1 l0_1.length c0_1, .slice (some ad436) l0_2.length c0_2] 60 (0, 0)) z38_8 hb); replace BK434 := am_ (blk_below (g := gb434) (o := .cells #[.slice A1_0 l1_0.length c1_0, .slice A1_1 l1_1.length c1_1] 40 (0, 0)) z38_9 hb); replace BK437 := am_ (blk_below (g := gb437) (o := .cells #[.int .i64 ((rd_T70 l0_2 x16_1).f0), .int .i64 ((rd_T70 l0_2 x16_1).f1), .int .i64 ((rd_T70 l0_2 x16_1).f2)] 70 (0, 0)) z38_10 hb); replace HB := am_ (below_step z38_7 hb); (try clear hb); (try clear hb2); (try clear hk); (try clear hi); have hnb33 := NB433_434.out; have hnc33 := NB434_433.out; have hcz34_0 := cf0 BK433.out; have hcz34_1 := cf1 BK433.out; have hcz34_2 := cf2 BK433.out; have hfz34_0 := blk_frozen BK433.out 0; have hfz34_1 := blk_frozen BK433.out 1; have hfz34_2 := blk_frozen BK433.out 2; have hcz35_0 := cf0 BK434.out; have hcz35_1 := cf1 BK434.out; have hfz35_0 := blk_frozen BK434.out 0; have hfz35_1 := blk_frozen BK434.out 1) | ((with_reducible refine gate_callee (f := 39) rfl ?_); refine goesL_ (some 28) rfl rfl Try.func39 (by kernel_rfl) rfl #[.agg #[.slice A0_0 l0_0.length c0_0, .slice A0_1 l0_1.length c0_1, .slice (some ad436) l0_2.length c0_2], .agg #[.slice A1_0 l1_0.length c1_0, .slice A1_1 l1_1.length c1_1], .int .i64 x16_1] rfl (by (try simp only [List.map_toArray, List.map_cons, List.map_nil]); first | done | rfl | (simp only [List.length_drop, List.length_take]; rfl)) ?_; (with_reducible refine (impl_scene_value.calls k1 _ _ l0_0 _ _ l0_1 _ _ l0_2 _ _ l1_0 _ _ l1_1 x16_1 t439 false _ ?side1 ?side2 ?side3 ?side4 ?side5 ?side6 ?side7 ?side8 ?side9 ?side10 A17.out).mono ?_); (case side1 => repeat (first | exact (Kd.C_below HR0_0.out HB.out) | (with_reducible refine Kd.C_alloc ?_ _) | (with_reducible refine Kd.C_drewN ?_ _) | (with_reducible refine Kd.C_drew ?_))); (case side2 => exact HC0_0.out); (case side3 => repeat (first | exact (Kd.C_below HR0_1.out HB.out) | (with_reducible refine Kd.C_alloc ?_ _) | (with_reducible refine Kd.C_drewN ?_ _) | (with_reducible refine Kd.C_drew ?_))); (case side4 => exact HC0_1.out); (case side5 => repeat (first | exact (Kd.C_below HR0_2.out HB.out) | (with_reducible refine Kd.C_alloc ?_ _) | (with_reducible refine Kd.C_drewN ?_ _) | (with_reducible refine Kd.C_drew ?_))); (case side6 => exact HC0_2.out); (case side7 => repeat (first | exact (Kd.C_below HR1_0.out HB.out) | (with_reducible refine Kd.C_alloc ?_ _) | (with_reducible refine Kd.C_drewN ?_ _) | (with_reducible refine Kd.C_drew ?_))); (case side8 => exact HC1_0.out); (case side9 => repeat (first | exact (Kd.C_below HR1_1.out HB.out) | (with_reducible refine Kd.C_alloc ?_ _) | (with_reducible refine Kd.C_drewN ?_ _) | (with_reducible refine Kd.C_drew ?_))); (case side10 => exact HC1_1.out); rintro e w36 ⟨rfl, hb⟩; refine ⟨_, rfl, ?_⟩; replace BK433 := am_ (blk_below (bu BK433.out) hb); replace BK434 := am_ (blk_below (bu BK434.out) hb); replace BK437 := am_ (blk_below (bu BK437.out) hb); replace HB := am_ (below_step z38_7 hb); (try clear hb); (try clear hb2); (try clear hk); (try clear hi)))
        go_ret
        exact ⟨z38_3, z38_7⟩
       replace c16 := Bool.eq_false_iff.mpr c16
       subst c16
       have H1 : (impl_scene_ok.l0 k1 l0_2 (l0_2.length : Int) (wrap64 (x16_1 + 1)) l0_0 l0_1 l0_2 l1_0 l1_1) = some r := by rw [if_neg (show ¬ (false = true) by decide)] at H; exact H
       clear H
       have H := H1
       clear H1
       have H' := am_ H
       clear H
       have p436 : 0 ≤ (x16_1 : Int) := of_decide_eq_true z38_2
       have q436 : x16_1 < (l0_2.length : Int) := of_decide_eq_true z38_2
       obtain ⟨ad436, e436, hx436_0, hx436_1, hx436_2⟩ := at_T70 HR0_2.out x16_1 p436 q436
       cases e436
       replace hx436_0 := (HB.out.cell (World.block_lt_of_cell? w _ hx436_0)).trans hx436_0
       replace hx436_1 := (HB.out.cell (World.block_lt_of_cell? w _ hx436_1)).trans hx436_1
       replace hx436_2 := (HB.out.cell (World.block_lt_of_cell? w _ hx436_2)).trans hx436_2
       replace p436 := eq_true p436
       replace q436 := eq_true q436
       go_wp2_with (first | ((with_reducible refine gate_dst (N := 6) rfl ?_); refine box_event ?hg (N := 6) ?hd (cs := #[.int .i64 0, .int .i64 0, .int .i64 0]) (t := 70) ?hr ?_; (case hd => rfl); (case hg => rfl); (case hr => first | (go_simp; done) | (go_simp; rfl)); intro gb437 hg w37 hbox hb; have n0_ := am_ (blk_below (bu BK433.out) hb); have n1_ := am_ (blk_below (bu BK434.out) hb); have n2_ := am_ (below_step z38_6 hb); have n3_ := am_ (hbox); have n4_ := am_ (by rw [hg]; exact (below_size z38_6) : w.heap.size ≤ gb437); have n5_ := am_ (by rw [hg]; exact (below_size z38_6) : w.heap.size ≤ gb437); have n6_ := am_ (by rw [hg]; exact Nat.ne_of_lt (blk_lt (bu BK433.out)) : gb433 ≠ gb437); have n7_ := am_ (by rw [hg]; exact Nat.ne_of_gt (blk_lt (bu BK433.out)) : gb437 ≠ gb433); have n8_ := am_ (by rw [hg]; exact Nat.ne_of_lt (blk_lt (bu BK434.out)) : gb434 ≠ gb437); have n9_ := am_ (by rw [hg]; exact Nat.ne_of_gt (blk_lt (bu BK434.out)) : gb437 ≠ gb434); clear BK433 BK434 HB; have BK433 := n0_; have BK434 := n1_; have HB := n2_; have BK437 := n3_; have GW437 := n4_; have GE437 := n5_; have NB433_437 := n6_; have NB437_433 := n7_; have NB434_437 := n8_; have NB437_434 := n9_; clear n0_ n1_ n2_ n3_ n4_ n5_ n6_ n7_ n8_ n9_; clear hb hbox hg; have hnb38 := NB437_433.out; have hnc38 := NB433_437.out; have hnb39 := NB437_434.out; have hnc39 := NB434_437.out; have hcz40_0 := cf0 BK437.out; have hcz40_1 := cf1 BK437.out; have hcz40_2 := cf2 BK437.out; have hfz40_0 := blk_frozen BK437.out 0; have hfz40_1 := blk_frozen BK437.out 1; have hfz40_2 := blk_frozen BK437.out 2) | ((with_reducible refine gate_callee (f := 34) rfl ?_); refine goesL_ (some 22) rfl rfl Try.func34 (by kernel_rfl) rfl #[.agg #[.int .i64 ((rd_T70 l0_2 x16_1).f0), .int .i64 ((rd_T70 l0_2 x16_1).f1), .int .i64 ((rd_T70 l0_2 x16_1).f2)]] rfl (by (try simp only [List.map_toArray, List.map_cons, List.map_nil]); first | done | rfl | (simp only [List.length_drop, List.length_take]; rfl)) ?_; (with_reducible refine (impl_Do_uses.calls ((rd_T70 l0_2 x16_1).f0) ((rd_T70 l0_2 x16_1).f1) ((rd_T70 l0_2 x16_1).f2) false _ A15.out).mono ?_); rintro e w41 ⟨rfl, hb⟩; refine ⟨_, rfl, ?_⟩; replace BK433 := am_ (blk_below (g := gb433) (o := .cells #[.slice A0_0 l0_0.length c0_0, .slice A0_1 l0_1.length c0_1, .slice (some ad436) l0_2.length c0_2] 60 (0, 0)) z38_8 hb); replace BK434 := am_ (blk_below (g := gb434) (o := .cells #[.slice A1_0 l1_0.length c1_0, .slice A1_1 l1_1.length c1_1] 40 (0, 0)) z38_9 hb); replace BK437 := am_ (blk_below (g := gb437) (o := .cells #[.int .i64 ((rd_T70 l0_2 x16_1).f0), .int .i64 ((rd_T70 l0_2 x16_1).f1), .int .i64 ((rd_T70 l0_2 x16_1).f2)] 70 (0, 0)) z38_10 hb); replace HB := am_ (below_step z38_7 hb); (try clear hb); (try clear hb2); (try clear hk); (try clear hi)))
       go_roundg k1
       case measure => have := HK1.out; omega
       case rel => exact ⟨(wrap64 (x16_1 + 1)), z38_1, H', ⟨by have := HK1.out; omega⟩, ⟨bu BK433.out⟩, ⟨bu BK434.out⟩, ⟨z38_7⟩⟩
      rw [if_neg c14] at H
      exact absurd H (by simp)
     rw [if_neg c13] at H
     exact absurd H (by simp)
    rw [if_neg c12] at H
    have c12b0 : decide (x16_1 < (l0_2.length : Int)) = false := decide_eq_false c12
    clear c12
    obtain rfl := Option.some.inj H
    go_wp2
    go_ret
    exact ⟨z38_3, z38_6⟩
 replace c4 := Bool.eq_false_iff.mpr c4
 subst c4
 have H1 : (some false) = some r := by rw [if_neg (show ¬ (false = true) by decide)] at H; exact H
 clear H
 have H := H1
 clear H1
 obtain rfl := Option.some.inj H
 go_enter Try.func38, Try.ntmps38
 go_wp2_with (first | ((with_reducible refine gate_dst (N := 2) rfl ?_); refine box_event ?hg (N := 2) ?hd (cs := #[.slice A0_0 l0_0.length c0_0, .slice A0_1 l0_1.length c0_1, .slice A0_2 l0_2.length c0_2]) (t := 60) ?hr ?_; (case hd => rfl); (case hg => rfl); (case hr => first | (go_simp; done) | (go_simp; rfl)); intro gb433 hg w42 hbox hb; have n0_ := am_ (below_step z38_4 hb); have n1_ := am_ (hbox); have n2_ := am_ (by rw [hg]; exact (below_size z38_4) : w.heap.size ≤ gb433); have n3_ := am_ (by rw [hg]; exact (below_size z38_4) : w.heap.size ≤ gb433); clear HB; have HB := n0_; have BK433 := n1_; have GW433 := n2_; have GE433 := n3_; clear n0_ n1_ n2_ n3_; clear hb hbox hg) | ((with_reducible refine gate_dst (N := 3) rfl ?_); refine box_event ?hg (N := 3) ?hd (cs := #[.slice A1_0 l1_0.length c1_0, .slice A1_1 l1_1.length c1_1]) (t := 40) ?hr ?_; (case hd => rfl); (case hg => rfl); (case hr => first | (go_simp; done) | (go_simp; rfl)); intro gb434 hg w43 hbox hb; have n0_ := am_ (blk_below (bu BK433.out) hb); have n1_ := am_ (below_step z38_5 hb); have n2_ := am_ (hbox); have n3_ := am_ (by rw [hg]; exact (below_size z38_5) : w.heap.size ≤ gb434); have n4_ := am_ (by rw [hg]; exact (below_size z38_5) : w.heap.size ≤ gb434); have n5_ := am_ (by rw [hg]; exact Nat.ne_of_lt (blk_lt (bu BK433.out)) : gb433 ≠ gb434); have n6_ := am_ (by rw [hg]; exact Nat.ne_of_gt (blk_lt (bu BK433.out)) : gb434 ≠ gb433); clear BK433 HB; have BK433 := n0_; have HB := n1_; have BK434 := n2_; have GW434 := n3_; have GE434 := n4_; have NB433_434 := n5_; have NB434_433 := n6_; clear n0_ n1_ n2_ n3_ n4_ n5_ n6_; clear hb hbox hg; have hnb44 := NB433_434.out; have hnc44 := NB434_433.out; have hcz45_0 := cf0 BK433.out; have hcz45_1 := cf1 BK433.out; have hcz45_2 := cf2 BK433.out; have hfz45_0 := blk_frozen BK433.out 0; have hfz45_1 := blk_frozen BK433.out 1; have hfz45_2 := blk_frozen BK433.out 2; have hcz46_0 := cf0 BK434.out; have hcz46_1 := cf1 BK434.out; have hfz46_0 := blk_frozen BK434.out 0; have hfz46_1 := blk_frozen BK434.out 1) | ((with_reducible refine gate_callee (f := 47) rfl ?_); refine goesL_ (some 11) rfl rfl Try.func47 (by kernel_rfl) rfl #[.agg #[.slice A0_0 l0_0.length c0_0, .slice A0_1 l0_1.length c0_1, .slice A0_2 l0_2.length c0_2], .agg #[.slice A1_0 l1_0.length c1_0, .slice A1_1 l1_1.length c1_1]] rfl (by (try simp only [List.map_toArray, List.map_cons, List.map_nil]); first | done | rfl | (simp only [List.length_drop, List.length_take]; rfl)) ?_; (with_reducible refine (impl_scene_fits.calls k _ _ l0_0 _ _ l0_1 _ _ l0_2 _ _ l1_0 _ _ l1_1 false _ ?side1 ?side2 ?side3 ?side4 ?side5 ?side6 ?side7 ?side8 ?side9 ?side10 A3.out).mono ?_); (case side1 => repeat (first | exact (Kd.C_below HR0_0.out HB.out) | (with_reducible refine Kd.C_alloc ?_ _) | (with_reducible refine Kd.C_drewN ?_ _) | (with_reducible refine Kd.C_drew ?_))); (case side2 => exact HC0_0.out); (case side3 => repeat (first | exact (Kd.C_below HR0_1.out HB.out) | (with_reducible refine Kd.C_alloc ?_ _) | (with_reducible refine Kd.C_drewN ?_ _) | (with_reducible refine Kd.C_drew ?_))); (case side4 => exact HC0_1.out); (case side5 => repeat (first | exact (Kd.C_below HR0_2.out HB.out) | (with_reducible refine Kd.C_alloc ?_ _) | (with_reducible refine Kd.C_drewN ?_ _) | (with_reducible refine Kd.C_drew ?_))); (case side6 => exact HC0_2.out); (case side7 => repeat (first | exact (Kd.C_below HR1_0.out HB.out) | (with_reducible refine Kd.C_alloc ?_ _) | (with_reducible refine Kd.C_drewN ?_ _) | (with_reducible refine Kd.C_drew ?_))); (case side8 => exact HC1_0.out); (case side9 => repeat (first | exact (Kd.C_below HR1_1.out HB.out) | (with_reducible refine Kd.C_alloc ?_ _) | (with_reducible refine Kd.C_drewN ?_ _) | (with_reducible refine Kd.C_drew ?_))); (case side10 => exact HC1_1.out); rintro e w47 ⟨rfl, hb⟩; refine ⟨_, rfl, ?_⟩; replace BK433 := am_ (blk_below (bu BK433.out) hb); replace BK434 := am_ (blk_below (bu BK434.out) hb); replace HB := am_ (below_step z38_6 hb); (try clear hb); (try clear hb2); (try clear hk); (try clear hi)))
 go_ret
 exact ⟨z38_3, z38_6⟩

end Go.Proofs.Ytmkchdlkpbnldaa.PB

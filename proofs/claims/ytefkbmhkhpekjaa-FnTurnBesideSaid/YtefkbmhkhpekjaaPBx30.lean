-- Written by this session's wip/myprint.py (the kit's print.py, with hand-written chunks). Lean checks it.
import Derived.Test.YtefkbmhkhpekjaaPBx0
import Derived.Test.YtefkbmhkhpekjaaPBx9000
namespace Go.Proofs.Ytefkbmhkhpekjaa.PB
open Go.RowKit Go.Proofs.YtefkbmhkhpekjaaW.PrintWords Go.Proofs.YtefkbmhkhpekjaaW.PrintLast Go.Proofs.YtefkbmhkhpekjaaW.PrintMore
attribute [local go_sem] max2_int min2_int max_two min_two max_three min_three max_four min_four   -- for this text's walks alone
open Go.Proofs.YtefkbmhkhpekjaaMine
set_option linter.unusedVariables false
set_option linter.unusedSimpArgs false

attribute [local go_sem high] eqA85
theorem z30_1 {p : Prop} (h : p := by first | rfl | (simp; done) | (simp [*]; done)) : p := h
theorem z30_2 {p : Prop} (h : p := by first | (with_reducible assumption) | assumption) : p := h
theorem z30_3 {p : Prop} (h : p := by first | rfl | (simp [errW_none, errW_some] <;> rfl) | (simp [*, errW_none, errW_some] <;> rfl)) : p := h
theorem z30_4 {p : Prop} (h : p := by repeat (first | (with_reducible first | exact HB.out | apply below_alloc | apply pw_below_drewN | apply below_drew1) | exact HB.out)) : p := h
theorem z30_5 {p : Prop} (h : p := by repeat (first | (with_reducible first | exact HB.out | apply below_alloc | apply pw_below_drewN | apply below_drew1 | refine below_set ?_ GE345.out) | exact HB.out)) : p := h
theorem z30_6 {p : Prop} (h : p := by repeat (first | (with_reducible first | exact HB.out | apply below_alloc | apply pw_below_drewN | apply below_drew1 | refine below_set ?_ GE345.out | refine below_set ?_ GE346.out) | exact HB.out)) : p := h
/-! ### laws_lpProg: function 30 -/
mutual
def laws_lpProg.l0 : Nat → Int → List (List (S85)) → List (List (S85)) → Option (Bool)
  | 0, _, _, _ => none
  | k + 1, x5, x346000, x347000 => if x5 < (x346000.length : Int) then (if 0 ≤ x5 then (if x5 < (x347000.length : Int) then (if ((rd_L7 x346000 x5).length : Int) = ((rd_L7 x347000 x5).length : Int) then (laws_lpProg.l1 k x5 0 x346000 x347000) else (some false)) else (none)) else (none)) else (some true)
def laws_lpProg.l1 : Nat → Int → Int → List (List (S85)) → List (List (S85)) → Option (Bool)
  | 0, _, _, _, _ => none
  | k + 1, x5, x6, x346000, x347000 => if 0 ≤ x5 then (if x5 < (x346000.length : Int) then (if x6 < ((rd_L7 x346000 x5).length : Int) then (if 0 ≤ x6 then (if x5 < (x347000.length : Int) then (if x6 < ((rd_L7 x347000 x5).length : Int) then (if (!(((rd_T85 (rd_L7 x346000 x5) x6).f0) == ((rd_T85 (rd_L7 x347000 x5) x6).f0)) || (!(((rd_T85 (rd_L7 x346000 x5) x6).f1) == ((rd_T85 (rd_L7 x347000 x5) x6).f1)) || (!(((rd_T85 (rd_L7 x346000 x5) x6).f2) == ((rd_T85 (rd_L7 x347000 x5) x6).f2))))) = true then (some false) else (laws_lpProg.l1 k x5 (wrap64 (x6 + 1)) x346000 x347000)) else (none)) else (none)) else (none)) else (laws_lpProg.l0 k (wrap64 (x5 + 1)) x346000 x347000)) else (none)) else (none)
end
def laws_lpProg.f (k : Nat) (l0_0 : List (List (S85))) (l1_0 : List (List (S85))) : Option (Bool) := if (l0_0.length : Int) = (l1_0.length : Int) then (laws_lpProg.l0 k 0 l0_0 l1_0) else (some false)
theorem laws_lpProg.mono_l : ∀ k, (∀ y0 y1 y2, LeO (laws_lpProg.l0 k y0 y1 y2) (laws_lpProg.l0 (k + 1) y0 y1 y2)) ∧ (∀ y0 y1 y2 y3, LeO (laws_lpProg.l1 k y0 y1 y2 y3) (laws_lpProg.l1 (k + 1) y0 y1 y2 y3))
  | 0 => ⟨fun _ _ _ r h => by simp [laws_lpProg.l0] at h, fun _ _ _ _ r h => by simp [laws_lpProg.l1] at h⟩
  | k + 1 => by
    obtain ⟨ih0, ih1⟩ := laws_lpProg.mono_l k
    refine ⟨?_, ?_⟩
    · intro y0 y1 y2
      unfold laws_lpProg.l0
      repeat' first
      | (with_reducible exact ih0 _ _ _)
      | (with_reducible exact ih1 _ _ _ _)
      | (with_reducible exact LeO.refl _)
      | (with_reducible exact LeO.none _)
      | (with_reducible refine LeO.ite ?_ ?_)
      | (with_reducible refine LeO.bind ?_ (fun _ => ?_))
      | exact ih0 _ _ _
      | exact ih1 _ _ _ _
      | exact LeO.none _
      | refine LeO.ite ?_ ?_
      | refine LeO.bind ?_ (fun _ => ?_)
    · intro y0 y1 y2 y3
      unfold laws_lpProg.l1
      repeat' first
      | (with_reducible exact ih0 _ _ _)
      | (with_reducible exact ih1 _ _ _ _)
      | (with_reducible exact LeO.refl _)
      | (with_reducible exact LeO.none _)
      | (with_reducible refine LeO.ite ?_ ?_)
      | (with_reducible refine LeO.bind ?_ (fun _ => ?_))
      | exact ih0 _ _ _
      | exact ih1 _ _ _ _
      | exact LeO.none _
      | refine LeO.ite ?_ ?_
      | refine LeO.bind ?_ (fun _ => ?_)
theorem laws_lpProg.mono : ∀ a0 a1 k, LeO (laws_lpProg.f k a0 a1) (laws_lpProg.f (k + 1) a0 a1) := by
  intro a0 a1 k
  obtain ⟨ih0, ih1⟩ := laws_lpProg.mono_l k
  unfold laws_lpProg.f
  repeat' first
      | (with_reducible exact ih0 _ _ _)
      | (with_reducible exact ih1 _ _ _ _)
      | (with_reducible exact LeO.refl _)
      | (with_reducible exact LeO.none _)
      | (with_reducible refine LeO.ite ?_ ?_)
      | (with_reducible refine LeO.bind ?_ (fun _ => ?_))
      | exact ih0 _ _ _
      | exact ih1 _ _ _ _
      | exact LeO.none _
      | refine LeO.ite ?_ ?_
      | refine LeO.bind ?_ (fun _ => ?_)
set_option maxHeartbeats 8000000 in
set_option maxRecDepth 100000 in
theorem laws_lpProg.calls (k : Nat) (A0_0 : Option Addr) (c0_0 : Nat) (l0_0 : List (List (S85))) (A1_0 : Option Addr) (c1_0 : Nat) (l1_0 : List (List (S85))) (r : Bool) (w : World) (hr0_0 : Kd.C (Kd.slice 85 k85) w A0_0 l0_0.length l0_0) (hc0_0 : l0_0.length ≤ c0_0) (hr1_0 : Kd.C (Kd.slice 85 k85) w A1_0 l1_0.length l1_0) (hc1_0 : l1_0.length ≤ c1_0) (h : laws_lpProg.f k l0_0 l1_0 = some r) :
  Calls Try.prog 30 #[.agg #[.slice A0_0 l0_0.length c0_0], .agg #[.slice A1_0 l1_0.length c1_0]] w fun e w' => e = .returned (.bool r) ∧ Below w.heap.size w w' := by
 have hu35 := Try.underlying35
 have hu85 := Try.underlying85
 have HR0_0 := am_ hr0_0
 have HC0_0 := am_ hc0_0
 clear hr0_0 hc0_0
 have HR1_0 := am_ hr1_0
 have HC1_0 := am_ hc1_0
 clear hr1_0 hc1_0
 have HB := am_ (Below.refl w.heap.size w)
 have H : (if (l0_0.length : Int) = (l1_0.length : Int) then (laws_lpProg.l0 k 0 l0_0 l1_0) else (some false)) = some r := h
 clear h
 by_cases c3 : (l0_0.length : Int) = (l1_0.length : Int)
 ·rw [if_pos c3] at H
  have c3b0 : ((l0_0.length : Int) == (l1_0.length : Int)) = true := beq_iff_eq.mpr c3
  have c3b1 : ((l0_0.length : Int) != (l1_0.length : Int)) = false := bne_eq_false_iff_eq.mpr c3
  have c3b2 : (l0_0.length == l1_0.length) = true := by first | simpa using c3 | (simp at c3 ⊢; omega)
  clear c3
  have H' := am_ H
  clear H
  go_enter Try.func30, Try.ntmps30
  go_wp2_with (first | ((with_reducible refine gate_dst (N := 2) rfl ?_); refine box_event ?hg (N := 2) ?hd (cs := #[.slice A0_0 l0_0.length c0_0]) (t := 35) ?hr ?_; (case hd => rfl); (case hg => rfl); (case hr => first | (go_simp; done) | (go_simp; rfl)); intro gb345 hg w4 hbox hb; have n0_ := am_ (below_step z30_4 hb); have n1_ := am_ (hbox); have n2_ := am_ (by rw [hg]; exact (below_size z30_4) : w.heap.size ≤ gb345); have n3_ := am_ (by rw [hg]; exact (below_size z30_4) : w.heap.size ≤ gb345); clear HB; have HB := n0_; have BK345 := n1_; have GW345 := n2_; have GE345 := n3_; clear n0_ n1_ n2_ n3_; clear hb hbox hg) | ((with_reducible refine gate_dst (N := 3) rfl ?_); refine box_event ?hg (N := 3) ?hd (cs := #[.slice A1_0 l1_0.length c1_0]) (t := 35) ?hr ?_; (case hd => rfl); (case hg => rfl); (case hr => first | (go_simp; done) | (go_simp; rfl)); intro gb346 hg w5 hbox hb; have n0_ := am_ (blk_below (bu BK345.out) hb); have n1_ := am_ (below_step z30_5 hb); have n2_ := am_ (hbox); have n3_ := am_ (by rw [hg]; exact (below_size z30_5) : w.heap.size ≤ gb346); have n4_ := am_ (by rw [hg]; exact (below_size z30_5) : w.heap.size ≤ gb346); have n5_ := am_ (by rw [hg]; exact Nat.ne_of_lt (blk_lt (bu BK345.out)) : gb345 ≠ gb346); have n6_ := am_ (by rw [hg]; exact Nat.ne_of_gt (blk_lt (bu BK345.out)) : gb346 ≠ gb345); clear BK345 HB; have BK345 := n0_; have HB := n1_; have BK346 := n2_; have GW346 := n3_; have GE346 := n4_; have NB345_346 := n5_; have NB346_345 := n6_; clear n0_ n1_ n2_ n3_ n4_ n5_ n6_; clear hb hbox hg; have hnb6 := NB345_346.out; have hnc6 := NB346_345.out; have hcz7_0 : w5.cell? ⟨gb345, 0, none⟩ = some (.slice A0_0 l0_0.length c0_0) := (blk_cell BK345.out 0).trans rfl; have hfz7_0 := blk_frozen BK345.out 0; have hcz8_0 : w5.cell? ⟨gb346, 0, none⟩ = some (.slice A1_0 l1_0.length c1_0) := (blk_cell BK346.out 0).trans rfl; have hfz8_0 := blk_frozen BK346.out 0))
  repeat (go_quiet (first | ((with_reducible refine gate_dst (N := 2) rfl ?_); refine box_event ?hg (N := 2) ?hd (cs := #[.slice A0_0 l0_0.length c0_0]) (t := 35) ?hr ?_; (case hd => rfl); (case hg => rfl); (case hr => first | (go_simp; done) | (go_simp; rfl)); intro gb345 hg w4 hbox hb; have n0_ := am_ (below_step z30_4 hb); have n1_ := am_ (hbox); have n2_ := am_ (by rw [hg]; exact (below_size z30_4) : w.heap.size ≤ gb345); have n3_ := am_ (by rw [hg]; exact (below_size z30_4) : w.heap.size ≤ gb345); clear HB; have HB := n0_; have BK345 := n1_; have GW345 := n2_; have GE345 := n3_; clear n0_ n1_ n2_ n3_; clear hb hbox hg) | ((with_reducible refine gate_dst (N := 3) rfl ?_); refine box_event ?hg (N := 3) ?hd (cs := #[.slice A1_0 l1_0.length c1_0]) (t := 35) ?hr ?_; (case hd => rfl); (case hg => rfl); (case hr => first | (go_simp; done) | (go_simp; rfl)); intro gb346 hg w5 hbox hb; have n0_ := am_ (blk_below (bu BK345.out) hb); have n1_ := am_ (below_step z30_5 hb); have n2_ := am_ (hbox); have n3_ := am_ (by rw [hg]; exact (below_size z30_5) : w.heap.size ≤ gb346); have n4_ := am_ (by rw [hg]; exact (below_size z30_5) : w.heap.size ≤ gb346); have n5_ := am_ (by rw [hg]; exact Nat.ne_of_lt (blk_lt (bu BK345.out)) : gb345 ≠ gb346); have n6_ := am_ (by rw [hg]; exact Nat.ne_of_gt (blk_lt (bu BK345.out)) : gb346 ≠ gb345); clear BK345 HB; have BK345 := n0_; have HB := n1_; have BK346 := n2_; have GW346 := n3_; have GE346 := n4_; have NB345_346 := n5_; have NB346_345 := n6_; clear n0_ n1_ n2_ n3_ n4_ n5_ n6_; clear hb hbox hg; have hnb6 := NB345_346.out; have hnc6 := NB346_345.out; have hcz7_0 : w5.cell? ⟨gb345, 0, none⟩ = some (.slice A0_0 l0_0.length c0_0) := (blk_cell BK345.out 0).trans rfl; have hfz7_0 := blk_frozen BK345.out 0; have hcz8_0 : w5.cell? ⟨gb346, 0, none⟩ = some (.slice A1_0 l1_0.length c1_0) := (blk_cell BK346.out 0).trans rfl; have hfz8_0 := blk_frozen BK346.out 0)); try go_wp2_with (first | ((with_reducible refine gate_dst (N := 2) rfl ?_); refine box_event ?hg (N := 2) ?hd (cs := #[.slice A0_0 l0_0.length c0_0]) (t := 35) ?hr ?_; (case hd => rfl); (case hg => rfl); (case hr => first | (go_simp; done) | (go_simp; rfl)); intro gb345 hg w4 hbox hb; have n0_ := am_ (below_step z30_4 hb); have n1_ := am_ (hbox); have n2_ := am_ (by rw [hg]; exact (below_size z30_4) : w.heap.size ≤ gb345); have n3_ := am_ (by rw [hg]; exact (below_size z30_4) : w.heap.size ≤ gb345); clear HB; have HB := n0_; have BK345 := n1_; have GW345 := n2_; have GE345 := n3_; clear n0_ n1_ n2_ n3_; clear hb hbox hg) | ((with_reducible refine gate_dst (N := 3) rfl ?_); refine box_event ?hg (N := 3) ?hd (cs := #[.slice A1_0 l1_0.length c1_0]) (t := 35) ?hr ?_; (case hd => rfl); (case hg => rfl); (case hr => first | (go_simp; done) | (go_simp; rfl)); intro gb346 hg w5 hbox hb; have n0_ := am_ (blk_below (bu BK345.out) hb); have n1_ := am_ (below_step z30_5 hb); have n2_ := am_ (hbox); have n3_ := am_ (by rw [hg]; exact (below_size z30_5) : w.heap.size ≤ gb346); have n4_ := am_ (by rw [hg]; exact (below_size z30_5) : w.heap.size ≤ gb346); have n5_ := am_ (by rw [hg]; exact Nat.ne_of_lt (blk_lt (bu BK345.out)) : gb345 ≠ gb346); have n6_ := am_ (by rw [hg]; exact Nat.ne_of_gt (blk_lt (bu BK345.out)) : gb346 ≠ gb345); clear BK345 HB; have BK345 := n0_; have HB := n1_; have BK346 := n2_; have GW346 := n3_; have GE346 := n4_; have NB345_346 := n5_; have NB346_345 := n6_; clear n0_ n1_ n2_ n3_ n4_ n5_ n6_; clear hb hbox hg; have hnb6 := NB345_346.out; have hnc6 := NB346_345.out; have hcz7_0 : w5.cell? ⟨gb345, 0, none⟩ = some (.slice A0_0 l0_0.length c0_0) := (blk_cell BK345.out 0).trans rfl; have hfz7_0 := blk_frozen BK345.out 0; have hcz8_0 : w5.cell? ⟨gb346, 0, none⟩ = some (.slice A1_0 l1_0.length c1_0) := (blk_cell BK346.out 0).trans rfl; have hfz8_0 := blk_frozen BK346.out 0)))
  go_loopg [5] k (fun kq v5 w' => ∃ (x5_1 : Int), v5 = .int .i64 x5_1 ∧ Aside0 (laws_lpProg.l0 kq x5_1 l0_0 l1_0 = some r) ∧ Aside0 (kq ≤ k) ∧ Aside0 (w'.heap[gb345]? = some (.cells #[(.slice A0_0 l0_0.length c0_0)] 35 (0, 0))) ∧ Aside0 (w'.heap[gb346]? = some (.cells #[(.slice A1_0 l1_0.length c1_0)] 35 (0, 0))) ∧ Aside0 (Below w.heap.size w w'))
  case atStart => exact ⟨(0), z30_1, H', ⟨Nat.le_refl _⟩, ⟨bu BK345.out⟩, ⟨bu BK346.out⟩, ⟨z30_6⟩⟩
  case round =>
   clear H'
   obtain ⟨x5_1, rfl, HA, HK1, BK345, BK346, HB⟩ := hrel
   cases gk with
   | zero => exact absurd HA.out (by simp [laws_lpProg.l0])
   | succ k1 =>
    have H := HA.out
    clear HA
    simp only [laws_lpProg.l0] at H
    by_cases c9 : x5_1 < (l0_0.length : Int)
    ·rw [if_pos c9] at H
     have c9b0 : decide (x5_1 < (l0_0.length : Int)) = true := decide_eq_true c9
     clear c9
     by_cases c10 : 0 ≤ x5_1
     ·rw [if_pos c10] at H
      have c10b0 : decide (0 ≤ x5_1) = true := decide_eq_true c10
      clear c10
      by_cases c11 : x5_1 < (l1_0.length : Int)
      ·rw [if_pos c11] at H
       have c11b0 : decide (x5_1 < (l1_0.length : Int)) = true := decide_eq_true c11
       clear c11
       by_cases c12 : ((rd_L7 l0_0 x5_1).length : Int) = ((rd_L7 l1_0 x5_1).length : Int)
       ·rw [if_pos c12] at H
        have c12b0 : (((rd_L7 l0_0 x5_1).length : Int) == ((rd_L7 l1_0 x5_1).length : Int)) = true := beq_iff_eq.mpr c12
        have c12b1 : (((rd_L7 l0_0 x5_1).length : Int) != ((rd_L7 l1_0 x5_1).length : Int)) = false := bne_eq_false_iff_eq.mpr c12
        have c12b2 : ((rd_L7 l0_0 x5_1).length == (rd_L7 l1_0 x5_1).length) = true := by first | simpa using c12 | (simp at c12 ⊢; omega)
        clear c12
        have H' := am_ H
        clear H
        have hnb13 := NB345_346.out
        have hnc13 := NB346_345.out
        have hcz14_0 : wr.cell? ⟨gb345, 0, none⟩ = some (.slice A0_0 l0_0.length c0_0) := (blk_cell BK345.out 0).trans rfl
        have hfz14_0 := blk_frozen BK345.out 0
        have p347 : 0 ≤ (x5_1 : Int) := of_decide_eq_true z30_2
        have q347 : x5_1 < (l0_0.length : Int) := of_decide_eq_true z30_2
        obtain ⟨ad347, A347_0, c347_0, e347, hx347_0, hl347_0, hi347_0⟩ := at_L7 HR0_0.out x5_1 p347 q347
        cases e347
        replace hx347_0 := (HB.out.cell (World.block_lt_of_cell? w _ hx347_0)).trans hx347_0
        have HR347_0 := am_ hi347_0
        have HC347_0 := am_ hl347_0
        clear hi347_0 hl347_0
        replace p347 := eq_true p347
        replace q347 := eq_true q347
        have hcz15_0 : wr.cell? ⟨gb346, 0, none⟩ = some (.slice A1_0 l1_0.length c1_0) := (blk_cell BK346.out 0).trans rfl
        have hfz15_0 := blk_frozen BK346.out 0
        have p348 : 0 ≤ (x5_1 : Int) := of_decide_eq_true z30_2
        have q348 : x5_1 < (l1_0.length : Int) := of_decide_eq_true z30_2
        obtain ⟨ad348, A348_0, c348_0, e348, hx348_0, hl348_0, hi348_0⟩ := at_L7 HR1_0.out x5_1 p348 q348
        cases e348
        replace hx348_0 := (HB.out.cell (World.block_lt_of_cell? w _ hx348_0)).trans hx348_0
        have HR348_0 := am_ hi348_0
        have HC348_0 := am_ hl348_0
        clear hi348_0 hl348_0
        replace p348 := eq_true p348
        replace q348 := eq_true q348
        go_wp2
        repeat (go_quiet (fail); try go_wp2)
        go_loopg [6] k1 (fun kq v6 w' => ∃ (x6_2 : Int), v6 = .int .i64 x6_2 ∧ Aside0 (laws_lpProg.l1 kq x5_1 x6_2 l0_0 l1_0 = some r) ∧ Aside0 (kq ≤ k1) ∧ Aside0 (w'.heap[gb345]? = some (.cells #[(.slice (some ad347) l0_0.length c0_0)] 35 (0, 0))) ∧ Aside0 (w'.heap[gb346]? = some (.cells #[(.slice (some ad348) l1_0.length c1_0)] 35 (0, 0))) ∧ Aside0 (Below w.heap.size w w'))
        case atStart => exact ⟨(0), z30_1, H', ⟨Nat.le_refl _⟩, ⟨bu BK345.out⟩, ⟨bu BK346.out⟩, ⟨z30_6⟩⟩
        case round =>
         clear H'
         obtain ⟨x6_2, rfl, HA, HK2, BK345, BK346, HB⟩ := hrel
         cases gk with
         | zero => exact absurd HA.out (by simp [laws_lpProg.l1])
         | succ k2 =>
          have H := HA.out
          clear HA
          simp only [laws_lpProg.l1] at H
          by_cases c16 : 0 ≤ x5_1
          ·rw [if_pos c16] at H
           have c16b0 : decide (0 ≤ x5_1) = true := decide_eq_true c16
           clear c16
           by_cases c17 : x5_1 < (l0_0.length : Int)
           ·rw [if_pos c17] at H
            have c17b0 : decide (x5_1 < (l0_0.length : Int)) = true := decide_eq_true c17
            clear c17
            by_cases c18 : x6_2 < ((rd_L7 l0_0 x5_1).length : Int)
            ·rw [if_pos c18] at H
             have c18b0 : decide (x6_2 < ((rd_L7 l0_0 x5_1).length : Int)) = true := decide_eq_true c18
             clear c18
             by_cases c19 : 0 ≤ x6_2
             ·rw [if_pos c19] at H
              have c19b0 : decide (0 ≤ x6_2) = true := decide_eq_true c19
              clear c19
              by_cases c20 : x5_1 < (l1_0.length : Int)
              ·rw [if_pos c20] at H
               have c20b0 : decide (x5_1 < (l1_0.length : Int)) = true := decide_eq_true c20
               clear c20
               by_cases c21 : x6_2 < ((rd_L7 l1_0 x5_1).length : Int)
               ·rw [if_pos c21] at H
                have c21b0 : decide (x6_2 < ((rd_L7 l1_0 x5_1).length : Int)) = true := decide_eq_true c21
                clear c21
                by_cases c22 : (!(((rd_T85 (rd_L7 l0_0 x5_1) x6_2).f0) == ((rd_T85 (rd_L7 l1_0 x5_1) x6_2).f0)) || (!(((rd_T85 (rd_L7 l0_0 x5_1) x6_2).f1) == ((rd_T85 (rd_L7 l1_0 x5_1) x6_2).f1)) || (!(((rd_T85 (rd_L7 l0_0 x5_1) x6_2).f2) == ((rd_T85 (rd_L7 l1_0 x5_1) x6_2).f2))))) = true
                ·rw [if_pos c22] at H
                 have c22b0 : (!(((rd_T85 (rd_L7 l0_0 x5_1) x6_2).f0) == ((rd_T85 (rd_L7 l1_0 x5_1) x6_2).f0)) || (!(((rd_T85 (rd_L7 l0_0 x5_1) x6_2).f1) == ((rd_T85 (rd_L7 l1_0 x5_1) x6_2).f1)) || (!(((rd_T85 (rd_L7 l0_0 x5_1) x6_2).f2) == ((rd_T85 (rd_L7 l1_0 x5_1) x6_2).f2))))) = true := c22
                 clear c22
                 obtain rfl := Option.some.inj H
                 have hnb23 := NB345_346.out
                 have hnc23 := NB346_345.out
                 have hcz24_0 : wr.cell? ⟨gb345, 0, none⟩ = some (.slice (some ad347) l0_0.length c0_0) := (blk_cell BK345.out 0).trans rfl
                 have hfz24_0 := blk_frozen BK345.out 0
                 have p349 : 0 ≤ (x5_1 : Int) := of_decide_eq_true z30_2
                 have q349 : x5_1 < (l0_0.length : Int) := of_decide_eq_true z30_2
                 obtain ⟨ad349, A349_0, c349_0, e349, hx349_0, hl349_0, hi349_0⟩ := at_L7 HR0_0.out x5_1 p349 q349
                 obtain rfl : ad347 = ad349 := (by injection e349)
                 replace hx349_0 := (HB.out.cell (World.block_lt_of_cell? w _ hx349_0)).trans hx349_0
                 have HR349_0 := am_ hi349_0
                 have HC349_0 := am_ hl349_0
                 clear hi349_0 hl349_0
                 replace p349 := eq_true p349
                 replace q349 := eq_true q349
                 have p350 : 0 ≤ (x5_1 : Int) := of_decide_eq_true z30_2
                 have q350 : x5_1 < (l0_0.length : Int) := of_decide_eq_true z30_2
                 obtain ⟨ad350, A350_0, c350_0, e350, hx350_0, hl350_0, hi350_0⟩ := at_L7 HR0_0.out x5_1 p350 q350
                 obtain rfl : ad347 = ad350 := (by injection e350)
                 replace hx350_0 := (HB.out.cell (World.block_lt_of_cell? w _ hx350_0)).trans hx350_0
                 have HR350_0 := am_ hi350_0
                 have HC350_0 := am_ hl350_0
                 clear hi350_0 hl350_0
                 replace p350 := eq_true p350
                 replace q350 := eq_true q350
                 have ea_ := Option.some.inj (hx349_0.symm.trans hx350_0)
                 injection ea_ with ea_ en_ ec_
                 subst ea_
                 subst ec_
                 clear en_
                 have p351 : 0 ≤ (x6_2 : Int) := of_decide_eq_true z30_2
                 have q351 : x6_2 < ((rd_L7 l0_0 x5_1).length : Int) := of_decide_eq_true z30_2
                 obtain ⟨ad351, e351, hx351_0, hx351_1, hx351_2⟩ := at_T85 HR350_0.out x6_2 p351 q351
                 cases e351
                 replace hx351_0 := (HB.out.cell (World.block_lt_of_cell? w _ hx351_0)).trans hx351_0
                 replace hx351_1 := (HB.out.cell (World.block_lt_of_cell? w _ hx351_1)).trans hx351_1
                 replace hx351_2 := (HB.out.cell (World.block_lt_of_cell? w _ hx351_2)).trans hx351_2
                 replace p351 := eq_true p351
                 replace q351 := eq_true q351
                 have hcz25_0 : wr.cell? ⟨gb346, 0, none⟩ = some (.slice (some ad348) l1_0.length c1_0) := (blk_cell BK346.out 0).trans rfl
                 have hfz25_0 := blk_frozen BK346.out 0
                 have p352 : 0 ≤ (x5_1 : Int) := of_decide_eq_true z30_2
                 have q352 : x5_1 < (l1_0.length : Int) := of_decide_eq_true z30_2
                 obtain ⟨ad352, A352_0, c352_0, e352, hx352_0, hl352_0, hi352_0⟩ := at_L7 HR1_0.out x5_1 p352 q352
                 obtain rfl : ad348 = ad352 := (by injection e352)
                 replace hx352_0 := (HB.out.cell (World.block_lt_of_cell? w _ hx352_0)).trans hx352_0
                 have HR352_0 := am_ hi352_0
                 have HC352_0 := am_ hl352_0
                 clear hi352_0 hl352_0
                 replace p352 := eq_true p352
                 replace q352 := eq_true q352
                 have p353 : 0 ≤ (x6_2 : Int) := of_decide_eq_true z30_2
                 have q353 : x6_2 < ((rd_L7 l1_0 x5_1).length : Int) := of_decide_eq_true z30_2
                 obtain ⟨ad353, e353, hx353_0, hx353_1, hx353_2⟩ := at_T85 HR352_0.out x6_2 p353 q353
                 cases e353
                 replace hx353_0 := (HB.out.cell (World.block_lt_of_cell? w _ hx353_0)).trans hx353_0
                 replace hx353_1 := (HB.out.cell (World.block_lt_of_cell? w _ hx353_1)).trans hx353_1
                 replace hx353_2 := (HB.out.cell (World.block_lt_of_cell? w _ hx353_2)).trans hx353_2
                 replace p353 := eq_true p353
                 replace q353 := eq_true q353
                 go_wp2
                 repeat (go_quiet (fail); try go_wp2)
                 go_ret
                 exact ⟨z30_3, z30_6⟩
                ·rw [if_neg c22] at H
                 have c22b0 : (!(((rd_T85 (rd_L7 l0_0 x5_1) x6_2).f0) == ((rd_T85 (rd_L7 l1_0 x5_1) x6_2).f0)) || (!(((rd_T85 (rd_L7 l0_0 x5_1) x6_2).f1) == ((rd_T85 (rd_L7 l1_0 x5_1) x6_2).f1)) || (!(((rd_T85 (rd_L7 l0_0 x5_1) x6_2).f2) == ((rd_T85 (rd_L7 l1_0 x5_1) x6_2).f2))))) = false := by simpa using c22
                 clear c22
                 have H' := am_ H
                 clear H
                 have hnb26 := NB345_346.out
                 have hnc26 := NB346_345.out
                 have hcz27_0 : wr.cell? ⟨gb345, 0, none⟩ = some (.slice (some ad347) l0_0.length c0_0) := (blk_cell BK345.out 0).trans rfl
                 have hfz27_0 := blk_frozen BK345.out 0
                 have p349 : 0 ≤ (x5_1 : Int) := of_decide_eq_true z30_2
                 have q349 : x5_1 < (l0_0.length : Int) := of_decide_eq_true z30_2
                 obtain ⟨ad349, A349_0, c349_0, e349, hx349_0, hl349_0, hi349_0⟩ := at_L7 HR0_0.out x5_1 p349 q349
                 obtain rfl : ad347 = ad349 := (by injection e349)
                 replace hx349_0 := (HB.out.cell (World.block_lt_of_cell? w _ hx349_0)).trans hx349_0
                 have HR349_0 := am_ hi349_0
                 have HC349_0 := am_ hl349_0
                 clear hi349_0 hl349_0
                 replace p349 := eq_true p349
                 replace q349 := eq_true q349
                 have p350 : 0 ≤ (x5_1 : Int) := of_decide_eq_true z30_2
                 have q350 : x5_1 < (l0_0.length : Int) := of_decide_eq_true z30_2
                 obtain ⟨ad350, A350_0, c350_0, e350, hx350_0, hl350_0, hi350_0⟩ := at_L7 HR0_0.out x5_1 p350 q350
                 obtain rfl : ad347 = ad350 := (by injection e350)
                 replace hx350_0 := (HB.out.cell (World.block_lt_of_cell? w _ hx350_0)).trans hx350_0
                 have HR350_0 := am_ hi350_0
                 have HC350_0 := am_ hl350_0
                 clear hi350_0 hl350_0
                 replace p350 := eq_true p350
                 replace q350 := eq_true q350
                 have ea_ := Option.some.inj (hx349_0.symm.trans hx350_0)
                 injection ea_ with ea_ en_ ec_
                 subst ea_
                 subst ec_
                 clear en_
                 have p351 : 0 ≤ (x6_2 : Int) := of_decide_eq_true z30_2
                 have q351 : x6_2 < ((rd_L7 l0_0 x5_1).length : Int) := of_decide_eq_true z30_2
                 obtain ⟨ad351, e351, hx351_0, hx351_1, hx351_2⟩ := at_T85 HR350_0.out x6_2 p351 q351
                 cases e351
                 replace hx351_0 := (HB.out.cell (World.block_lt_of_cell? w _ hx351_0)).trans hx351_0
                 replace hx351_1 := (HB.out.cell (World.block_lt_of_cell? w _ hx351_1)).trans hx351_1
                 replace hx351_2 := (HB.out.cell (World.block_lt_of_cell? w _ hx351_2)).trans hx351_2
                 replace p351 := eq_true p351
                 replace q351 := eq_true q351
                 have hcz28_0 : wr.cell? ⟨gb346, 0, none⟩ = some (.slice (some ad348) l1_0.length c1_0) := (blk_cell BK346.out 0).trans rfl
                 have hfz28_0 := blk_frozen BK346.out 0
                 have p352 : 0 ≤ (x5_1 : Int) := of_decide_eq_true z30_2
                 have q352 : x5_1 < (l1_0.length : Int) := of_decide_eq_true z30_2
                 obtain ⟨ad352, A352_0, c352_0, e352, hx352_0, hl352_0, hi352_0⟩ := at_L7 HR1_0.out x5_1 p352 q352
                 obtain rfl : ad348 = ad352 := (by injection e352)
                 replace hx352_0 := (HB.out.cell (World.block_lt_of_cell? w _ hx352_0)).trans hx352_0
                 have HR352_0 := am_ hi352_0
                 have HC352_0 := am_ hl352_0
                 clear hi352_0 hl352_0
                 replace p352 := eq_true p352
                 replace q352 := eq_true q352
                 have p353 : 0 ≤ (x6_2 : Int) := of_decide_eq_true z30_2
                 have q353 : x6_2 < ((rd_L7 l1_0 x5_1).length : Int) := of_decide_eq_true z30_2
                 obtain ⟨ad353, e353, hx353_0, hx353_1, hx353_2⟩ := at_T85 HR352_0.out x6_2 p353 q353
                 cases e353
                 replace hx353_0 := (HB.out.cell (World.block_lt_of_cell? w _ hx353_0)).trans hx353_0
                 replace hx353_1 := (HB.out.cell (World.block_lt_of_cell? w _ hx353_1)).trans hx353_1
                 replace hx353_2 := (HB.out.cell (World.block_lt_of_cell? w _ hx353_2)).trans hx353_2
                 replace p353 := eq_true p353
                 replace q353 := eq_true q353
                 go_wp2
                 repeat (go_quiet (fail); try go_wp2)
                 go_roundg k2
                 case measure => have := HK1.out; have := HK2.out; omega
                 case rel => exact ⟨(wrap64 (x6_2 + 1)), z30_1, H', ⟨by have := HK1.out; have := HK2.out; omega⟩, ⟨bu BK345.out⟩, ⟨bu BK346.out⟩, ⟨z30_6⟩⟩
               ·rw [if_neg c21] at H
                exact absurd H (by simp)
              ·rw [if_neg c20] at H
               exact absurd H (by simp)
             ·rw [if_neg c19] at H
              exact absurd H (by simp)
            ·rw [if_neg c18] at H
             have c18b0 : decide (x6_2 < ((rd_L7 l0_0 x5_1).length : Int)) = false := decide_eq_false c18
             clear c18
             have H' := am_ H
             clear H
             have hnb29 := NB345_346.out
             have hnc29 := NB346_345.out
             have hcz30_0 : wr.cell? ⟨gb345, 0, none⟩ = some (.slice (some ad347) l0_0.length c0_0) := (blk_cell BK345.out 0).trans rfl
             have hfz30_0 := blk_frozen BK345.out 0
             have p349 : 0 ≤ (x5_1 : Int) := of_decide_eq_true z30_2
             have q349 : x5_1 < (l0_0.length : Int) := of_decide_eq_true z30_2
             obtain ⟨ad349, A349_0, c349_0, e349, hx349_0, hl349_0, hi349_0⟩ := at_L7 HR0_0.out x5_1 p349 q349
             obtain rfl : ad347 = ad349 := (by injection e349)
             replace hx349_0 := (HB.out.cell (World.block_lt_of_cell? w _ hx349_0)).trans hx349_0
             have HR349_0 := am_ hi349_0
             have HC349_0 := am_ hl349_0
             clear hi349_0 hl349_0
             replace p349 := eq_true p349
             replace q349 := eq_true q349
             go_wp2
             repeat (go_quiet (fail); try go_wp2)
             go_roundg k2
             case measure => have := HK1.out; have := HK2.out; omega
             case rel => exact ⟨(wrap64 (x5_1 + 1)), z30_1, H', ⟨by have := HK1.out; have := HK2.out; omega⟩, ⟨bu BK345.out⟩, ⟨bu BK346.out⟩, ⟨z30_6⟩⟩
           ·rw [if_neg c17] at H
            exact absurd H (by simp)
          ·rw [if_neg c16] at H
           exact absurd H (by simp)
       ·rw [if_neg c12] at H
        have c12b0 : (((rd_L7 l0_0 x5_1).length : Int) == ((rd_L7 l1_0 x5_1).length : Int)) = false := beq_eq_false_iff_ne.mpr c12
        have c12b1 : (((rd_L7 l0_0 x5_1).length : Int) != ((rd_L7 l1_0 x5_1).length : Int)) = true := bne_iff_ne.mpr c12
        have c12b2 : ((rd_L7 l0_0 x5_1).length == (rd_L7 l1_0 x5_1).length) = false := by first | simpa using c12 | (simp at c12 ⊢; omega)
        obtain rfl := Option.some.inj H
        have hnb31 := NB345_346.out
        have hnc31 := NB346_345.out
        have hcz32_0 : wr.cell? ⟨gb345, 0, none⟩ = some (.slice A0_0 l0_0.length c0_0) := (blk_cell BK345.out 0).trans rfl
        have hfz32_0 := blk_frozen BK345.out 0
        have p347 : 0 ≤ (x5_1 : Int) := of_decide_eq_true z30_2
        have q347 : x5_1 < (l0_0.length : Int) := of_decide_eq_true z30_2
        obtain ⟨ad347, A347_0, c347_0, e347, hx347_0, hl347_0, hi347_0⟩ := at_L7 HR0_0.out x5_1 p347 q347
        cases e347
        replace hx347_0 := (HB.out.cell (World.block_lt_of_cell? w _ hx347_0)).trans hx347_0
        have HR347_0 := am_ hi347_0
        have HC347_0 := am_ hl347_0
        clear hi347_0 hl347_0
        replace p347 := eq_true p347
        replace q347 := eq_true q347
        have hcz33_0 : wr.cell? ⟨gb346, 0, none⟩ = some (.slice A1_0 l1_0.length c1_0) := (blk_cell BK346.out 0).trans rfl
        have hfz33_0 := blk_frozen BK346.out 0
        have p348 : 0 ≤ (x5_1 : Int) := of_decide_eq_true z30_2
        have q348 : x5_1 < (l1_0.length : Int) := of_decide_eq_true z30_2
        obtain ⟨ad348, A348_0, c348_0, e348, hx348_0, hl348_0, hi348_0⟩ := at_L7 HR1_0.out x5_1 p348 q348
        cases e348
        replace hx348_0 := (HB.out.cell (World.block_lt_of_cell? w _ hx348_0)).trans hx348_0
        have HR348_0 := am_ hi348_0
        have HC348_0 := am_ hl348_0
        clear hi348_0 hl348_0
        replace p348 := eq_true p348
        replace q348 := eq_true q348
        go_wp2
        repeat (go_quiet (fail); try go_wp2)
        go_ret
        exact ⟨z30_3, z30_6⟩
      ·rw [if_neg c11] at H
       exact absurd H (by simp)
     ·rw [if_neg c10] at H
      exact absurd H (by simp)
    ·rw [if_neg c9] at H
     have c9b0 : decide (x5_1 < (l0_0.length : Int)) = false := decide_eq_false c9
     clear c9
     obtain rfl := Option.some.inj H
     have hnb34 := NB345_346.out
     have hnc34 := NB346_345.out
     have hcz35_0 : wr.cell? ⟨gb345, 0, none⟩ = some (.slice A0_0 l0_0.length c0_0) := (blk_cell BK345.out 0).trans rfl
     have hfz35_0 := blk_frozen BK345.out 0
     go_wp2
     repeat (go_quiet (fail); try go_wp2)
     go_ret
     exact ⟨z30_3, z30_6⟩
 ·rw [if_neg c3] at H
  have c3b0 : ((l0_0.length : Int) == (l1_0.length : Int)) = false := beq_eq_false_iff_ne.mpr c3
  have c3b1 : ((l0_0.length : Int) != (l1_0.length : Int)) = true := bne_iff_ne.mpr c3
  have c3b2 : (l0_0.length == l1_0.length) = false := by first | simpa using c3 | (simp at c3 ⊢; omega)
  obtain rfl := Option.some.inj H
  go_enter Try.func30, Try.ntmps30
  go_wp2_with (first | ((with_reducible refine gate_dst (N := 2) rfl ?_); refine box_event ?hg (N := 2) ?hd (cs := #[.slice A0_0 l0_0.length c0_0]) (t := 35) ?hr ?_; (case hd => rfl); (case hg => rfl); (case hr => first | (go_simp; done) | (go_simp; rfl)); intro gb345 hg w36 hbox hb; have n0_ := am_ (below_step z30_4 hb); have n1_ := am_ (hbox); have n2_ := am_ (by rw [hg]; exact (below_size z30_4) : w.heap.size ≤ gb345); have n3_ := am_ (by rw [hg]; exact (below_size z30_4) : w.heap.size ≤ gb345); clear HB; have HB := n0_; have BK345 := n1_; have GW345 := n2_; have GE345 := n3_; clear n0_ n1_ n2_ n3_; clear hb hbox hg) | ((with_reducible refine gate_dst (N := 3) rfl ?_); refine box_event ?hg (N := 3) ?hd (cs := #[.slice A1_0 l1_0.length c1_0]) (t := 35) ?hr ?_; (case hd => rfl); (case hg => rfl); (case hr => first | (go_simp; done) | (go_simp; rfl)); intro gb346 hg w37 hbox hb; have n0_ := am_ (blk_below (bu BK345.out) hb); have n1_ := am_ (below_step z30_5 hb); have n2_ := am_ (hbox); have n3_ := am_ (by rw [hg]; exact (below_size z30_5) : w.heap.size ≤ gb346); have n4_ := am_ (by rw [hg]; exact (below_size z30_5) : w.heap.size ≤ gb346); have n5_ := am_ (by rw [hg]; exact Nat.ne_of_lt (blk_lt (bu BK345.out)) : gb345 ≠ gb346); have n6_ := am_ (by rw [hg]; exact Nat.ne_of_gt (blk_lt (bu BK345.out)) : gb346 ≠ gb345); clear BK345 HB; have BK345 := n0_; have HB := n1_; have BK346 := n2_; have GW346 := n3_; have GE346 := n4_; have NB345_346 := n5_; have NB346_345 := n6_; clear n0_ n1_ n2_ n3_ n4_ n5_ n6_; clear hb hbox hg; have hnb38 := NB345_346.out; have hnc38 := NB346_345.out; have hcz39_0 : w37.cell? ⟨gb345, 0, none⟩ = some (.slice A0_0 l0_0.length c0_0) := (blk_cell BK345.out 0).trans rfl; have hfz39_0 := blk_frozen BK345.out 0; have hcz40_0 : w37.cell? ⟨gb346, 0, none⟩ = some (.slice A1_0 l1_0.length c1_0) := (blk_cell BK346.out 0).trans rfl; have hfz40_0 := blk_frozen BK346.out 0))
  repeat (go_quiet (first | ((with_reducible refine gate_dst (N := 2) rfl ?_); refine box_event ?hg (N := 2) ?hd (cs := #[.slice A0_0 l0_0.length c0_0]) (t := 35) ?hr ?_; (case hd => rfl); (case hg => rfl); (case hr => first | (go_simp; done) | (go_simp; rfl)); intro gb345 hg w36 hbox hb; have n0_ := am_ (below_step z30_4 hb); have n1_ := am_ (hbox); have n2_ := am_ (by rw [hg]; exact (below_size z30_4) : w.heap.size ≤ gb345); have n3_ := am_ (by rw [hg]; exact (below_size z30_4) : w.heap.size ≤ gb345); clear HB; have HB := n0_; have BK345 := n1_; have GW345 := n2_; have GE345 := n3_; clear n0_ n1_ n2_ n3_; clear hb hbox hg) | ((with_reducible refine gate_dst (N := 3) rfl ?_); refine box_event ?hg (N := 3) ?hd (cs := #[.slice A1_0 l1_0.length c1_0]) (t := 35) ?hr ?_; (case hd => rfl); (case hg => rfl); (case hr => first | (go_simp; done) | (go_simp; rfl)); intro gb346 hg w37 hbox hb; have n0_ := am_ (blk_below (bu BK345.out) hb); have n1_ := am_ (below_step z30_5 hb); have n2_ := am_ (hbox); have n3_ := am_ (by rw [hg]; exact (below_size z30_5) : w.heap.size ≤ gb346); have n4_ := am_ (by rw [hg]; exact (below_size z30_5) : w.heap.size ≤ gb346); have n5_ := am_ (by rw [hg]; exact Nat.ne_of_lt (blk_lt (bu BK345.out)) : gb345 ≠ gb346); have n6_ := am_ (by rw [hg]; exact Nat.ne_of_gt (blk_lt (bu BK345.out)) : gb346 ≠ gb345); clear BK345 HB; have BK345 := n0_; have HB := n1_; have BK346 := n2_; have GW346 := n3_; have GE346 := n4_; have NB345_346 := n5_; have NB346_345 := n6_; clear n0_ n1_ n2_ n3_ n4_ n5_ n6_; clear hb hbox hg; have hnb38 := NB345_346.out; have hnc38 := NB346_345.out; have hcz39_0 : w37.cell? ⟨gb345, 0, none⟩ = some (.slice A0_0 l0_0.length c0_0) := (blk_cell BK345.out 0).trans rfl; have hfz39_0 := blk_frozen BK345.out 0; have hcz40_0 : w37.cell? ⟨gb346, 0, none⟩ = some (.slice A1_0 l1_0.length c1_0) := (blk_cell BK346.out 0).trans rfl; have hfz40_0 := blk_frozen BK346.out 0)); try go_wp2_with (first | ((with_reducible refine gate_dst (N := 2) rfl ?_); refine box_event ?hg (N := 2) ?hd (cs := #[.slice A0_0 l0_0.length c0_0]) (t := 35) ?hr ?_; (case hd => rfl); (case hg => rfl); (case hr => first | (go_simp; done) | (go_simp; rfl)); intro gb345 hg w36 hbox hb; have n0_ := am_ (below_step z30_4 hb); have n1_ := am_ (hbox); have n2_ := am_ (by rw [hg]; exact (below_size z30_4) : w.heap.size ≤ gb345); have n3_ := am_ (by rw [hg]; exact (below_size z30_4) : w.heap.size ≤ gb345); clear HB; have HB := n0_; have BK345 := n1_; have GW345 := n2_; have GE345 := n3_; clear n0_ n1_ n2_ n3_; clear hb hbox hg) | ((with_reducible refine gate_dst (N := 3) rfl ?_); refine box_event ?hg (N := 3) ?hd (cs := #[.slice A1_0 l1_0.length c1_0]) (t := 35) ?hr ?_; (case hd => rfl); (case hg => rfl); (case hr => first | (go_simp; done) | (go_simp; rfl)); intro gb346 hg w37 hbox hb; have n0_ := am_ (blk_below (bu BK345.out) hb); have n1_ := am_ (below_step z30_5 hb); have n2_ := am_ (hbox); have n3_ := am_ (by rw [hg]; exact (below_size z30_5) : w.heap.size ≤ gb346); have n4_ := am_ (by rw [hg]; exact (below_size z30_5) : w.heap.size ≤ gb346); have n5_ := am_ (by rw [hg]; exact Nat.ne_of_lt (blk_lt (bu BK345.out)) : gb345 ≠ gb346); have n6_ := am_ (by rw [hg]; exact Nat.ne_of_gt (blk_lt (bu BK345.out)) : gb346 ≠ gb345); clear BK345 HB; have BK345 := n0_; have HB := n1_; have BK346 := n2_; have GW346 := n3_; have GE346 := n4_; have NB345_346 := n5_; have NB346_345 := n6_; clear n0_ n1_ n2_ n3_ n4_ n5_ n6_; clear hb hbox hg; have hnb38 := NB345_346.out; have hnc38 := NB346_345.out; have hcz39_0 : w37.cell? ⟨gb345, 0, none⟩ = some (.slice A0_0 l0_0.length c0_0) := (blk_cell BK345.out 0).trans rfl; have hfz39_0 := blk_frozen BK345.out 0; have hcz40_0 : w37.cell? ⟨gb346, 0, none⟩ = some (.slice A1_0 l1_0.length c1_0) := (blk_cell BK346.out 0).trans rfl; have hfz40_0 := blk_frozen BK346.out 0)))
  go_ret
  exact ⟨z30_3, z30_6⟩

end Go.Proofs.Ytefkbmhkhpekjaa.PB

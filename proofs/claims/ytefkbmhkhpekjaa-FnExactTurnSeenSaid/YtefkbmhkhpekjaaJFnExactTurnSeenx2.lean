-- Joined by wip/mclaim.py out of YtefkbmhkhpekjaaPBx77, YtefkbmhkhpekjaaPBx31, YtefkbmhkhpekjaaPBx91, YtefkbmhkhpekjaaPBx40, YtefkbmhkhpekjaaPBx107, YtefkbmhkhpekjaaPBx63, YtefkbmhkhpekjaaPBx68, YtefkbmhkhpekjaaPBx133, YtefkbmhkhpekjaaPBx120, YtefkbmhkhpekjaaPBx97, YtefkbmhkhpekjaaPBx61
import Derived.Test.YtefkbmhkhpekjaaPBx0
import Derived.Test.YtefkbmhkhpekjaaJFnExactTurnSeenx3
namespace Go.Proofs.Ytefkbmhkhpekjaa.PB
open Go.RowKit Go.Proofs.YtefkbmhkhpekjaaW.PrintWords Go.Proofs.YtefkbmhkhpekjaaW.PrintLast Go.Proofs.YtefkbmhkhpekjaaW.PrintMore
attribute [local go_sem] max2_int min2_int max_two min_two max_three min_three max_four min_four   -- for this text's walks alone
open Go.Proofs.YtefkbmhkhpekjaaMine
set_option linter.unusedVariables false
set_option linter.unusedSimpArgs false

theorem z77_1 {p : Prop} (h : p := by first | rfl | (simp; done) | (simp [*]; done)) : p := h
theorem z77_2 {p : Prop} (h : p := by first | rfl | (simp [errW_none, errW_some] <;> rfl) | (simp [*, errW_none, errW_some] <;> rfl)) : p := h
theorem z77_3 {p : Prop} (h : p := by repeat (first | (with_reducible first | exact HB.out | apply below_alloc | apply pw_below_drewN | apply below_drew1) | exact HB.out)) : p := h
theorem z77_4 {p : Prop} (h : p := by repeat (first | (with_reducible first | exact HB.out | apply below_alloc | apply pw_below_drewN | apply below_drew1 | refine below_set ?_ GE368.out) | exact HB.out)) : p := h
theorem z77_5 {p : Prop} (h : p := by (with_reducible repeat (first | refine blk_drewN ?_ _ | refine blk_drew ?_ | refine blk_alloc ?_ _)); refine blk_put (cs := #[.int .i64 ((rd_T85 l0 x10_1).f0), .int .i64 ((rd_T85 l0 x10_1).f1), .int .i64 0]) ?_ 2 _ rfl; (with_reducible repeat (first | refine blk_drewN ?_ _ | refine blk_drew ?_ | refine blk_alloc ?_ _)); refine blk_put (cs := #[.int .i64 ((rd_T85 l0 x10_1).f0), .int .i64 0, .int .i64 0]) ?_ 1 _ rfl; (with_reducible repeat (first | refine blk_drewN ?_ _ | refine blk_drew ?_ | refine blk_alloc ?_ _)); refine blk_put (cs := #[.int .i64 0, .int .i64 0, .int .i64 0]) ?_ 0 _ rfl; (with_reducible repeat (first | refine blk_drewN ?_ _ | refine blk_drew ?_ | refine blk_alloc ?_ _)); exact BK368.out) : p := h
/-! ### impl_threadOk: function 77 -/
mutual
def impl_threadOk.l0 : Nat → List (S85) → Bool → Bool → List (S85) → Int → Int → Option (Bool)
  | 0, _, _, _, _, _, _ => none
  | k + 1, x0, x3, x4, x8, x9, x10 => if x10 < x9 then (if 0 ≤ x10 then (if x10 < (x8.length : Int) then (if ((rd_T85 x8 x10).f0) = 3 then (if x3 = true then (if x4 = true then (if ((rd_T85 x8 x10).f0) = 7 then (impl_threadOk.j1 k x0 x3 x4 true x8 x9 x10 ((rd_T85 x8 x10).f0) ((rd_T85 x8 x10).f1) ((rd_T85 x8 x10).f2)) else (if ((rd_T85 x8 x10).f0) = 9 then (impl_threadOk.j1 k x0 x3 x4 true x8 x9 x10 ((rd_T85 x8 x10).f0) ((rd_T85 x8 x10).f1) ((rd_T85 x8 x10).f2)) else (impl_threadOk.j1 k x0 x3 x4 false x8 x9 x10 ((rd_T85 x8 x10).f0) ((rd_T85 x8 x10).f1) ((rd_T85 x8 x10).f2)))) else (impl_threadOk.j1 k x0 x3 x4 (((rd_T85 x8 x10).f0) == 8) x8 x9 x10 ((rd_T85 x8 x10).f0) ((rd_T85 x8 x10).f1) ((rd_T85 x8 x10).f2))) else (impl_threadOk.j1 k x0 x3 x4 true x8 x9 x10 ((rd_T85 x8 x10).f0) ((rd_T85 x8 x10).f1) ((rd_T85 x8 x10).f2))) else (if x4 = true then (if ((rd_T85 x8 x10).f0) = 7 then (impl_threadOk.j1 k x0 x3 x4 true x8 x9 x10 ((rd_T85 x8 x10).f0) ((rd_T85 x8 x10).f1) ((rd_T85 x8 x10).f2)) else (if ((rd_T85 x8 x10).f0) = 9 then (impl_threadOk.j1 k x0 x3 x4 true x8 x9 x10 ((rd_T85 x8 x10).f0) ((rd_T85 x8 x10).f1) ((rd_T85 x8 x10).f2)) else (impl_threadOk.j1 k x0 x3 x4 false x8 x9 x10 ((rd_T85 x8 x10).f0) ((rd_T85 x8 x10).f1) ((rd_T85 x8 x10).f2)))) else (impl_threadOk.j1 k x0 x3 x4 (((rd_T85 x8 x10).f0) == 8) x8 x9 x10 ((rd_T85 x8 x10).f0) ((rd_T85 x8 x10).f1) ((rd_T85 x8 x10).f2)))) else (none)) else (none)) else (if x4 = true then (some false) else (some (decide ((x0.length : Int) ≤ 7))))
def impl_threadOk.j1 : Nat → List (S85) → Bool → Bool → Bool → List (S85) → Int → Int → Int → Int → Int → Option (Bool)
  | 0, _, _, _, _, _, _, _, _, _, _ => none
  | k + 1, x0, x3, x4, x7, x8, x9, x10, x369000, x369001, x369002 => (impl_Do_formed.f k x369000 x369001 x369002).bind fun t369 => (if t369 = true then (if x7 = true then (some false) else (if x3 = true then (if x369000 = 7 then (impl_threadOk.l0 k x0 true true x8 x9 (wrap64 (x10 + 1))) else (if x4 = true then (impl_threadOk.l0 k x0 true (x369000 != 8) x8 x9 (wrap64 (x10 + 1))) else (impl_threadOk.l0 k x0 true false x8 x9 (wrap64 (x10 + 1))))) else ((impl_Do_reads.f x369000 x369001 x369002).bind fun t370 => (if x369000 = 7 then (impl_threadOk.l0 k x0 t370 true x8 x9 (wrap64 (x10 + 1))) else (if x4 = true then (impl_threadOk.l0 k x0 t370 (x369000 != 8) x8 x9 (wrap64 (x10 + 1))) else (impl_threadOk.l0 k x0 t370 false x8 x9 (wrap64 (x10 + 1)))))))) else (some false))
end
def impl_threadOk.f (k : Nat) (l0 : List (S85)) : Option (Bool) := impl_threadOk.l0 k l0 false false l0 (l0.length : Int) 0
set_option maxHeartbeats 8000000 in
set_option maxRecDepth 100000 in
theorem impl_threadOk.calls (k : Nat) (A0 : Option Addr) (c0 : Nat) (l0 : List (S85)) (r : Bool) (w : World) (hr0 : Kd.C k85 w A0 l0.length l0) (hc0 : l0.length ≤ c0) (h : impl_threadOk.f k l0 = some r) :
  Calls Try.prog 77 #[.slice A0 l0.length c0] w fun e w' => e = .returned (.bool r) ∧ Below w.heap.size w w' := by
 have hu85 := Try.underlying85
 have HR0 := am_ hr0
 have HC0 := am_ hc0
 clear hr0 hc0
 have HB := am_ (Below.refl w.heap.size w)
 have H : (impl_threadOk.l0 k l0 false false l0 (l0.length : Int) 0) = some r := h
 clear h
 have H' := am_ H
 clear H
 go_enter Try.func77, Try.ntmps77
 go_wp2
 go_loopg [3, 4, 10] k (fun kq v3 v4 v10 w' => ∃ (x3_1 : Bool) (x4_1 : Bool) (x10_1 : Int), v3 = .bool x3_1 ∧ v4 = .bool x4_1 ∧ v10 = .int .i64 x10_1 ∧ Aside0 (impl_threadOk.l0 kq l0 x3_1 x4_1 l0 (l0.length : Int) x10_1 = some r) ∧ Aside0 (kq ≤ k) ∧ Aside0 (Below w.heap.size w w'))
 case atStart => exact ⟨(false), (false), (0), z77_1, z77_1, z77_1, H', ⟨Nat.le_refl _⟩, ⟨z77_3⟩⟩
 case round =>
  clear H'
  obtain ⟨x3_1, x4_1, x10_1, rfl, rfl, rfl, HA, HK1, HB⟩ := hrel
  cases gk with
  | zero => exact absurd HA.out (by simp [impl_threadOk.l0])
  | succ k1 =>
   have H := HA.out
   clear HA
   simp only [impl_threadOk.l0] at H
   by_cases c2 : x10_1 < (l0.length : Int)
   ·rw [if_pos c2] at H
    have c2b0 : decide (x10_1 < (l0.length : Int)) = true := decide_eq_true c2
    clear c2
    by_cases c3 : 0 ≤ x10_1
    ·rw [if_pos c3] at H
     have c3b0 : decide (0 ≤ x10_1) = true := decide_eq_true c3
     clear c3
     by_cases c4 : x10_1 < (l0.length : Int)
     ·rw [if_pos c4] at H
      have c4b0 : decide (x10_1 < (l0.length : Int)) = true := decide_eq_true c4
      clear c4
      have HC5 := am_ H
      clear H
      have p367 : 0 ≤ (x10_1 : Int) := of_decide_eq_true (by first | (with_reducible assumption) | assumption)
      have q367 : x10_1 < (l0.length : Int) := of_decide_eq_true (by first | (with_reducible assumption) | assumption)
      obtain ⟨ad367, e367, hx367_0, hx367_1, hx367_2⟩ := at_T85 HR0.out x10_1 p367 q367
      cases e367
      replace hx367_0 := (HB.out.cell (World.block_lt_of_cell? w _ hx367_0)).trans hx367_0
      replace hx367_1 := (HB.out.cell (World.block_lt_of_cell? w _ hx367_1)).trans hx367_1
      replace hx367_2 := (HB.out.cell (World.block_lt_of_cell? w _ hx367_2)).trans hx367_2
      replace p367 := eq_true p367
      replace q367 := eq_true q367
      go_upto_region 5 with (first | ((with_reducible refine gate_dst (N := 6) rfl ?_); (try (refine gate_guard (by rfl) ?_; dsimp only)); refine box_event ?hg (N := 6) ?hd (cs := #[.int .i64 0, .int .i64 0, .int .i64 0]) (t := 85) ?hr ?_; (case hd => rfl); (case hg => rfl); (case hr => first | (go_simp; done) | (go_simp; rfl)); intro gb368 hg w6 hbox hb; have n0_ := am_ (below_step z77_3 hb); have n1_ := am_ (hbox); have n2_ := am_ (by rw [hg]; exact (below_size z77_3) : w.heap.size ≤ gb368); have n3_ := am_ (by rw [hg]; exact (below_size z77_3) : w.heap.size ≤ gb368); clear HB; have HB := n0_; have BK368 := n1_; have GW368 := n2_; have GE368 := n3_; clear n0_ n1_ n2_ n3_; clear hb hbox hg; have hcz7_0 : w6.cell? ⟨gb368, 0, none⟩ = some (.int .i64 0) := (blk_cell BK368.out 0).trans rfl; have hcz7_1 : w6.cell? ⟨gb368, 1, none⟩ = some (.int .i64 0) := (blk_cell BK368.out 1).trans rfl; have hcz7_2 : w6.cell? ⟨gb368, 2, none⟩ = some (.int .i64 0) := (blk_cell BK368.out 2).trans rfl; have hfz7_0 := blk_frozen BK368.out 0; have hfz7_1 := blk_frozen BK368.out 1; have hfz7_2 := blk_frozen BK368.out 2))
      (try simp only [Act.put, List.setIfInBounds_toArray, List.set_cons_zero, List.set_cons_succ])
      go_cut [7] (fun v7 wc => ∃ (kq : Nat) (x7_4 : Bool), v7 = .bool x7_4 ∧ Aside0 (impl_threadOk.j1 kq l0 x3_1 x4_1 x7_4 l0 (l0.length : Int) x10_1 ((rd_T85 l0 x10_1).f0) ((rd_T85 l0 x10_1).f1) ((rd_T85 l0 x10_1).f2) = some r) ∧ Aside0 (kq ≤ k1) ∧ Aside0 (wc.heap[gb368]? = some (.cells #[.int .i64 ((rd_T85 l0 x10_1).f0), .int .i64 ((rd_T85 l0 x10_1).f1), .int .i64 ((rd_T85 l0 x10_1).f2)] 85 (0, 0))) ∧ Aside0 (Below w.heap.size w wc))
      case first =>
       have H := HC5.out
       clear HC5
       by_cases c8 : ((rd_T85 l0 x10_1).f0) = 3
       ·rw [if_pos c8] at H
        have c8b0 : (((rd_T85 l0 x10_1).f0) == 3) = true := beq_iff_eq.mpr c8
        have c8b1 : (((rd_T85 l0 x10_1).f0) != 3) = false := bne_eq_false_iff_eq.mpr c8
        clear c8
        (first | rw [c8b0] | (simp only [i64_w, i32_w]; rw [c8b0]) | skip)
        by_cases c9 : x3_1 = true
        ·subst c9
         have H1 : (if x4_1 = true then (if ((rd_T85 l0 x10_1).f0) = 7 then (impl_threadOk.j1 k1 l0 true x4_1 true l0 (l0.length : Int) x10_1 ((rd_T85 l0 x10_1).f0) ((rd_T85 l0 x10_1).f1) ((rd_T85 l0 x10_1).f2)) else (if ((rd_T85 l0 x10_1).f0) = 9 then (impl_threadOk.j1 k1 l0 true x4_1 true l0 (l0.length : Int) x10_1 ((rd_T85 l0 x10_1).f0) ((rd_T85 l0 x10_1).f1) ((rd_T85 l0 x10_1).f2)) else (impl_threadOk.j1 k1 l0 true x4_1 false l0 (l0.length : Int) x10_1 ((rd_T85 l0 x10_1).f0) ((rd_T85 l0 x10_1).f1) ((rd_T85 l0 x10_1).f2)))) else (impl_threadOk.j1 k1 l0 true x4_1 (((rd_T85 l0 x10_1).f0) == 8) l0 (l0.length : Int) x10_1 ((rd_T85 l0 x10_1).f0) ((rd_T85 l0 x10_1).f1) ((rd_T85 l0 x10_1).f2))) = some r := by rw [if_pos rfl] at H; exact H
         clear H
         have H := H1
         clear H1
         by_cases c10 : x4_1 = true
         ·subst c10
          have H1 : (if ((rd_T85 l0 x10_1).f0) = 7 then (impl_threadOk.j1 k1 l0 true true true l0 (l0.length : Int) x10_1 ((rd_T85 l0 x10_1).f0) ((rd_T85 l0 x10_1).f1) ((rd_T85 l0 x10_1).f2)) else (if ((rd_T85 l0 x10_1).f0) = 9 then (impl_threadOk.j1 k1 l0 true true true l0 (l0.length : Int) x10_1 ((rd_T85 l0 x10_1).f0) ((rd_T85 l0 x10_1).f1) ((rd_T85 l0 x10_1).f2)) else (impl_threadOk.j1 k1 l0 true true false l0 (l0.length : Int) x10_1 ((rd_T85 l0 x10_1).f0) ((rd_T85 l0 x10_1).f1) ((rd_T85 l0 x10_1).f2)))) = some r := by rw [if_pos rfl] at H; exact H
          clear H
          have H := H1
          clear H1
          by_cases c11 : ((rd_T85 l0 x10_1).f0) = 7
          ·rw [if_pos c11] at H
           have c11b0 : (((rd_T85 l0 x10_1).f0) == 7) = true := beq_iff_eq.mpr c11
           have c11b1 : (((rd_T85 l0 x10_1).f0) != 7) = false := bne_eq_false_iff_eq.mpr c11
           clear c11
           have H' := am_ H
           clear H
           have hcz12_0 : w6.cell? ⟨gb368, 0, none⟩ = some (.int .i64 0) := (blk_cell BK368.out 0).trans rfl
           have hcz12_1 : w6.cell? ⟨gb368, 1, none⟩ = some (.int .i64 0) := (blk_cell BK368.out 1).trans rfl
           have hcz12_2 : w6.cell? ⟨gb368, 2, none⟩ = some (.int .i64 0) := (blk_cell BK368.out 2).trans rfl
           have hfz12_0 := blk_frozen BK368.out 0
           have hfz12_1 := blk_frozen BK368.out 1
           have hfz12_2 := blk_frozen BK368.out 2
           go_wp2
           go_meet
           case rel => exact ⟨_, (true), z77_1, H', ⟨by have := HK1.out; first | omega | exact Nat.le_refl _⟩, ⟨z77_5⟩, ⟨z77_4⟩⟩
          ·rw [if_neg c11] at H
           have c11b0 : (((rd_T85 l0 x10_1).f0) == 7) = false := beq_eq_false_iff_ne.mpr c11
           have c11b1 : (((rd_T85 l0 x10_1).f0) != 7) = true := bne_iff_ne.mpr c11
           by_cases c13 : ((rd_T85 l0 x10_1).f0) = 9
           ·rw [if_pos c13] at H
            have c13b0 : (((rd_T85 l0 x10_1).f0) == 9) = true := beq_iff_eq.mpr c13
            have c13b1 : (((rd_T85 l0 x10_1).f0) != 9) = false := bne_eq_false_iff_eq.mpr c13
            clear c13
            have H' := am_ H
            clear H
            have hcz14_0 : w6.cell? ⟨gb368, 0, none⟩ = some (.int .i64 0) := (blk_cell BK368.out 0).trans rfl
            have hcz14_1 : w6.cell? ⟨gb368, 1, none⟩ = some (.int .i64 0) := (blk_cell BK368.out 1).trans rfl
            have hcz14_2 : w6.cell? ⟨gb368, 2, none⟩ = some (.int .i64 0) := (blk_cell BK368.out 2).trans rfl
            have hfz14_0 := blk_frozen BK368.out 0
            have hfz14_1 := blk_frozen BK368.out 1
            have hfz14_2 := blk_frozen BK368.out 2
            go_wp2
            go_meet
            case rel => exact ⟨_, (true), z77_1, H', ⟨by have := HK1.out; first | omega | exact Nat.le_refl _⟩, ⟨z77_5⟩, ⟨z77_4⟩⟩
           ·rw [if_neg c13] at H
            have c13b0 : (((rd_T85 l0 x10_1).f0) == 9) = false := beq_eq_false_iff_ne.mpr c13
            have c13b1 : (((rd_T85 l0 x10_1).f0) != 9) = true := bne_iff_ne.mpr c13
            have H' := am_ H
            clear H
            have hcz15_0 : w6.cell? ⟨gb368, 0, none⟩ = some (.int .i64 0) := (blk_cell BK368.out 0).trans rfl
            have hcz15_1 : w6.cell? ⟨gb368, 1, none⟩ = some (.int .i64 0) := (blk_cell BK368.out 1).trans rfl
            have hcz15_2 : w6.cell? ⟨gb368, 2, none⟩ = some (.int .i64 0) := (blk_cell BK368.out 2).trans rfl
            have hfz15_0 := blk_frozen BK368.out 0
            have hfz15_1 := blk_frozen BK368.out 1
            have hfz15_2 := blk_frozen BK368.out 2
            go_wp2
            go_meet
            case rel => exact ⟨_, (false), z77_1, H', ⟨by have := HK1.out; first | omega | exact Nat.le_refl _⟩, ⟨z77_5⟩, ⟨z77_4⟩⟩
         ·replace c10 := Bool.eq_false_iff.mpr c10
          subst c10
          have H1 : (impl_threadOk.j1 k1 l0 true false (((rd_T85 l0 x10_1).f0) == 8) l0 (l0.length : Int) x10_1 ((rd_T85 l0 x10_1).f0) ((rd_T85 l0 x10_1).f1) ((rd_T85 l0 x10_1).f2)) = some r := by rw [if_neg (show ¬ (false = true) by decide)] at H; exact H
          clear H
          have H := H1
          clear H1
          have H' := am_ H
          clear H
          have hcz16_0 : w6.cell? ⟨gb368, 0, none⟩ = some (.int .i64 0) := (blk_cell BK368.out 0).trans rfl
          have hcz16_1 : w6.cell? ⟨gb368, 1, none⟩ = some (.int .i64 0) := (blk_cell BK368.out 1).trans rfl
          have hcz16_2 : w6.cell? ⟨gb368, 2, none⟩ = some (.int .i64 0) := (blk_cell BK368.out 2).trans rfl
          have hfz16_0 := blk_frozen BK368.out 0
          have hfz16_1 := blk_frozen BK368.out 1
          have hfz16_2 := blk_frozen BK368.out 2
          go_wp2
          go_meet
          case rel => exact ⟨_, ((((rd_T85 l0 x10_1).f0) == 8)), z77_1, H', ⟨by have := HK1.out; first | omega | exact Nat.le_refl _⟩, ⟨z77_5⟩, ⟨z77_4⟩⟩
        ·replace c9 := Bool.eq_false_iff.mpr c9
         subst c9
         have H1 : (impl_threadOk.j1 k1 l0 false x4_1 true l0 (l0.length : Int) x10_1 ((rd_T85 l0 x10_1).f0) ((rd_T85 l0 x10_1).f1) ((rd_T85 l0 x10_1).f2)) = some r := by rw [if_neg (show ¬ (false = true) by decide)] at H; exact H
         clear H
         have H := H1
         clear H1
         have H' := am_ H
         clear H
         have hcz17_0 : w6.cell? ⟨gb368, 0, none⟩ = some (.int .i64 0) := (blk_cell BK368.out 0).trans rfl
         have hcz17_1 : w6.cell? ⟨gb368, 1, none⟩ = some (.int .i64 0) := (blk_cell BK368.out 1).trans rfl
         have hcz17_2 : w6.cell? ⟨gb368, 2, none⟩ = some (.int .i64 0) := (blk_cell BK368.out 2).trans rfl
         have hfz17_0 := blk_frozen BK368.out 0
         have hfz17_1 := blk_frozen BK368.out 1
         have hfz17_2 := blk_frozen BK368.out 2
         go_wp2
         go_meet
         case rel => exact ⟨_, (true), z77_1, H', ⟨by have := HK1.out; first | omega | exact Nat.le_refl _⟩, ⟨z77_5⟩, ⟨z77_4⟩⟩
       ·rw [if_neg c8] at H
        have c8b0 : (((rd_T85 l0 x10_1).f0) == 3) = false := beq_eq_false_iff_ne.mpr c8
        have c8b1 : (((rd_T85 l0 x10_1).f0) != 3) = true := bne_iff_ne.mpr c8
        (first | rw [c8b0] | (simp only [i64_w, i32_w]; rw [c8b0]) | skip)
        by_cases c18 : x4_1 = true
        ·subst c18
         have H1 : (if ((rd_T85 l0 x10_1).f0) = 7 then (impl_threadOk.j1 k1 l0 x3_1 true true l0 (l0.length : Int) x10_1 ((rd_T85 l0 x10_1).f0) ((rd_T85 l0 x10_1).f1) ((rd_T85 l0 x10_1).f2)) else (if ((rd_T85 l0 x10_1).f0) = 9 then (impl_threadOk.j1 k1 l0 x3_1 true true l0 (l0.length : Int) x10_1 ((rd_T85 l0 x10_1).f0) ((rd_T85 l0 x10_1).f1) ((rd_T85 l0 x10_1).f2)) else (impl_threadOk.j1 k1 l0 x3_1 true false l0 (l0.length : Int) x10_1 ((rd_T85 l0 x10_1).f0) ((rd_T85 l0 x10_1).f1) ((rd_T85 l0 x10_1).f2)))) = some r := by rw [if_pos rfl] at H; exact H
         clear H
         have H := H1
         clear H1
         by_cases c19 : ((rd_T85 l0 x10_1).f0) = 7
         ·rw [if_pos c19] at H
          have c19b0 : (((rd_T85 l0 x10_1).f0) == 7) = true := beq_iff_eq.mpr c19
          have c19b1 : (((rd_T85 l0 x10_1).f0) != 7) = false := bne_eq_false_iff_eq.mpr c19
          clear c19
          have H' := am_ H
          clear H
          have hcz20_0 : w6.cell? ⟨gb368, 0, none⟩ = some (.int .i64 0) := (blk_cell BK368.out 0).trans rfl
          have hcz20_1 : w6.cell? ⟨gb368, 1, none⟩ = some (.int .i64 0) := (blk_cell BK368.out 1).trans rfl
          have hcz20_2 : w6.cell? ⟨gb368, 2, none⟩ = some (.int .i64 0) := (blk_cell BK368.out 2).trans rfl
          have hfz20_0 := blk_frozen BK368.out 0
          have hfz20_1 := blk_frozen BK368.out 1
          have hfz20_2 := blk_frozen BK368.out 2
          go_wp2
          go_meet
          case rel => exact ⟨_, (true), z77_1, H', ⟨by have := HK1.out; first | omega | exact Nat.le_refl _⟩, ⟨z77_5⟩, ⟨z77_4⟩⟩
         ·rw [if_neg c19] at H
          have c19b0 : (((rd_T85 l0 x10_1).f0) == 7) = false := beq_eq_false_iff_ne.mpr c19
          have c19b1 : (((rd_T85 l0 x10_1).f0) != 7) = true := bne_iff_ne.mpr c19
          by_cases c21 : ((rd_T85 l0 x10_1).f0) = 9
          ·rw [if_pos c21] at H
           have c21b0 : (((rd_T85 l0 x10_1).f0) == 9) = true := beq_iff_eq.mpr c21
           have c21b1 : (((rd_T85 l0 x10_1).f0) != 9) = false := bne_eq_false_iff_eq.mpr c21
           clear c21
           have H' := am_ H
           clear H
           have hcz22_0 : w6.cell? ⟨gb368, 0, none⟩ = some (.int .i64 0) := (blk_cell BK368.out 0).trans rfl
           have hcz22_1 : w6.cell? ⟨gb368, 1, none⟩ = some (.int .i64 0) := (blk_cell BK368.out 1).trans rfl
           have hcz22_2 : w6.cell? ⟨gb368, 2, none⟩ = some (.int .i64 0) := (blk_cell BK368.out 2).trans rfl
           have hfz22_0 := blk_frozen BK368.out 0
           have hfz22_1 := blk_frozen BK368.out 1
           have hfz22_2 := blk_frozen BK368.out 2
           go_wp2
           go_meet
           case rel => exact ⟨_, (true), z77_1, H', ⟨by have := HK1.out; first | omega | exact Nat.le_refl _⟩, ⟨z77_5⟩, ⟨z77_4⟩⟩
          ·rw [if_neg c21] at H
           have c21b0 : (((rd_T85 l0 x10_1).f0) == 9) = false := beq_eq_false_iff_ne.mpr c21
           have c21b1 : (((rd_T85 l0 x10_1).f0) != 9) = true := bne_iff_ne.mpr c21
           have H' := am_ H
           clear H
           have hcz23_0 : w6.cell? ⟨gb368, 0, none⟩ = some (.int .i64 0) := (blk_cell BK368.out 0).trans rfl
           have hcz23_1 : w6.cell? ⟨gb368, 1, none⟩ = some (.int .i64 0) := (blk_cell BK368.out 1).trans rfl
           have hcz23_2 : w6.cell? ⟨gb368, 2, none⟩ = some (.int .i64 0) := (blk_cell BK368.out 2).trans rfl
           have hfz23_0 := blk_frozen BK368.out 0
           have hfz23_1 := blk_frozen BK368.out 1
           have hfz23_2 := blk_frozen BK368.out 2
           go_wp2
           go_meet
           case rel => exact ⟨_, (false), z77_1, H', ⟨by have := HK1.out; first | omega | exact Nat.le_refl _⟩, ⟨z77_5⟩, ⟨z77_4⟩⟩
        ·replace c18 := Bool.eq_false_iff.mpr c18
         subst c18
         have H1 : (impl_threadOk.j1 k1 l0 x3_1 false (((rd_T85 l0 x10_1).f0) == 8) l0 (l0.length : Int) x10_1 ((rd_T85 l0 x10_1).f0) ((rd_T85 l0 x10_1).f1) ((rd_T85 l0 x10_1).f2)) = some r := by rw [if_neg (show ¬ (false = true) by decide)] at H; exact H
         clear H
         have H := H1
         clear H1
         have H' := am_ H
         clear H
         have hcz24_0 : w6.cell? ⟨gb368, 0, none⟩ = some (.int .i64 0) := (blk_cell BK368.out 0).trans rfl
         have hcz24_1 : w6.cell? ⟨gb368, 1, none⟩ = some (.int .i64 0) := (blk_cell BK368.out 1).trans rfl
         have hcz24_2 : w6.cell? ⟨gb368, 2, none⟩ = some (.int .i64 0) := (blk_cell BK368.out 2).trans rfl
         have hfz24_0 := blk_frozen BK368.out 0
         have hfz24_1 := blk_frozen BK368.out 1
         have hfz24_2 := blk_frozen BK368.out 2
         go_wp2
         go_meet
         case rel => exact ⟨_, ((((rd_T85 l0 x10_1).f0) == 8)), z77_1, H', ⟨by have := HK1.out; first | omega | exact Nat.le_refl _⟩, ⟨z77_5⟩, ⟨z77_4⟩⟩
      case rest =>
       clear HC5
       obtain ⟨kq, x7_4, rfl, HA, HJ4, BK368, HB⟩ := hcut
       cases kq with
       | zero => exact absurd HA.out (by simp [impl_threadOk.j1])
       | succ kj4 =>
        have H := HA.out
        clear HA
        simp only [impl_threadOk.j1] at H
        replace H := Option.bind_eq_some_iff.mp H
        obtain ⟨t369, A250, H⟩ := H
        replace H : (if t369 = true then (if x7_4 = true then (some false) else (if x3_1 = true then (if ((rd_T85 l0 x10_1).f0) = 7 then (impl_threadOk.l0 kj4 l0 true true l0 (l0.length : Int) (wrap64 (x10_1 + 1))) else (if x4_1 = true then (impl_threadOk.l0 kj4 l0 true (((rd_T85 l0 x10_1).f0) != 8) l0 (l0.length : Int) (wrap64 (x10_1 + 1))) else (impl_threadOk.l0 kj4 l0 true false l0 (l0.length : Int) (wrap64 (x10_1 + 1))))) else ((impl_Do_reads.f ((rd_T85 l0 x10_1).f0) ((rd_T85 l0 x10_1).f1) ((rd_T85 l0 x10_1).f2)).bind fun t370 => (if ((rd_T85 l0 x10_1).f0) = 7 then (impl_threadOk.l0 kj4 l0 t370 true l0 (l0.length : Int) (wrap64 (x10_1 + 1))) else (if x4_1 = true then (impl_threadOk.l0 kj4 l0 t370 (((rd_T85 l0 x10_1).f0) != 8) l0 (l0.length : Int) (wrap64 (x10_1 + 1))) else (impl_threadOk.l0 kj4 l0 t370 false l0 (l0.length : Int) (wrap64 (x10_1 + 1)))))))) else (some false)) = some r := H
        have A25 := am_ A250
        clear A250
        by_cases c26 : t369 = true
        ·subst c26
         have H1 : (if x7_4 = true then (some false) else (if x3_1 = true then (if ((rd_T85 l0 x10_1).f0) = 7 then (impl_threadOk.l0 kj4 l0 true true l0 (l0.length : Int) (wrap64 (x10_1 + 1))) else (if x4_1 = true then (impl_threadOk.l0 kj4 l0 true (((rd_T85 l0 x10_1).f0) != 8) l0 (l0.length : Int) (wrap64 (x10_1 + 1))) else (impl_threadOk.l0 kj4 l0 true false l0 (l0.length : Int) (wrap64 (x10_1 + 1))))) else ((impl_Do_reads.f ((rd_T85 l0 x10_1).f0) ((rd_T85 l0 x10_1).f1) ((rd_T85 l0 x10_1).f2)).bind fun t370 => (if ((rd_T85 l0 x10_1).f0) = 7 then (impl_threadOk.l0 kj4 l0 t370 true l0 (l0.length : Int) (wrap64 (x10_1 + 1))) else (if x4_1 = true then (impl_threadOk.l0 kj4 l0 t370 (((rd_T85 l0 x10_1).f0) != 8) l0 (l0.length : Int) (wrap64 (x10_1 + 1))) else (impl_threadOk.l0 kj4 l0 t370 false l0 (l0.length : Int) (wrap64 (x10_1 + 1)))))))) = some r := by rw [if_pos rfl] at H; exact H
         clear H
         have H := H1
         clear H1
         by_cases c27 : x7_4 = true
         ·subst c27
          have H1 : (some false) = some r := by rw [if_pos rfl] at H; exact H
          clear H
          have H := H1
          clear H1
          obtain rfl := Option.some.inj H
          have hcz28_0 : wc.cell? ⟨gb368, 0, none⟩ = some (.int .i64 ((rd_T85 l0 x10_1).f0)) := (blk_cell BK368.out 0).trans rfl
          have hcz28_1 : wc.cell? ⟨gb368, 1, none⟩ = some (.int .i64 ((rd_T85 l0 x10_1).f1)) := (blk_cell BK368.out 1).trans rfl
          have hcz28_2 : wc.cell? ⟨gb368, 2, none⟩ = some (.int .i64 ((rd_T85 l0 x10_1).f2)) := (blk_cell BK368.out 2).trans rfl
          have hfz28_0 := blk_frozen BK368.out 0
          have hfz28_1 := blk_frozen BK368.out 1
          have hfz28_2 := blk_frozen BK368.out 2
          go_wp2_with (first | ((with_reducible refine gate_callee (f := 116) rfl ?_); refine goesL_ (some 44) rfl rfl Try.func116 (by kernel_rfl) rfl #[.agg #[.int .i64 ((rd_T85 l0 x10_1).f0), .int .i64 ((rd_T85 l0 x10_1).f1), .int .i64 ((rd_T85 l0 x10_1).f2)]] rfl (by (try simp only [List.map_toArray, List.map_cons, List.map_nil]); first | done | rfl | (simp only [List.length_drop, List.length_take]; rfl)) ?_; (with_reducible refine (impl_Do_formed.calls kj4 ((rd_T85 l0 x10_1).f0) ((rd_T85 l0 x10_1).f1) ((rd_T85 l0 x10_1).f2) true _ A25.out).mono ?_); rintro e w29 ⟨rfl, hb⟩; refine ⟨_, rfl, ?_⟩; have n0_ := am_ (blk_below (bu BK368.out) hb); have n1_ := am_ (below_step z77_4 hb); clear BK368 HB; have BK368 := n0_; have HB := n1_; clear n0_ n1_; (try clear hb); (try clear hb2); (try clear hk); (try clear hi)))
          go_ret
          exact ⟨z77_2, z77_4⟩
         ·replace c27 := Bool.eq_false_iff.mpr c27
          subst c27
          have H1 : (if x3_1 = true then (if ((rd_T85 l0 x10_1).f0) = 7 then (impl_threadOk.l0 kj4 l0 true true l0 (l0.length : Int) (wrap64 (x10_1 + 1))) else (if x4_1 = true then (impl_threadOk.l0 kj4 l0 true (((rd_T85 l0 x10_1).f0) != 8) l0 (l0.length : Int) (wrap64 (x10_1 + 1))) else (impl_threadOk.l0 kj4 l0 true false l0 (l0.length : Int) (wrap64 (x10_1 + 1))))) else ((impl_Do_reads.f ((rd_T85 l0 x10_1).f0) ((rd_T85 l0 x10_1).f1) ((rd_T85 l0 x10_1).f2)).bind fun t370 => (if ((rd_T85 l0 x10_1).f0) = 7 then (impl_threadOk.l0 kj4 l0 t370 true l0 (l0.length : Int) (wrap64 (x10_1 + 1))) else (if x4_1 = true then (impl_threadOk.l0 kj4 l0 t370 (((rd_T85 l0 x10_1).f0) != 8) l0 (l0.length : Int) (wrap64 (x10_1 + 1))) else (impl_threadOk.l0 kj4 l0 t370 false l0 (l0.length : Int) (wrap64 (x10_1 + 1))))))) = some r := by rw [if_neg (show ¬ (false = true) by decide)] at H; exact H
          clear H
          have H := H1
          clear H1
          by_cases c30 : x3_1 = true
          ·subst c30
           have H1 : (if ((rd_T85 l0 x10_1).f0) = 7 then (impl_threadOk.l0 kj4 l0 true true l0 (l0.length : Int) (wrap64 (x10_1 + 1))) else (if x4_1 = true then (impl_threadOk.l0 kj4 l0 true (((rd_T85 l0 x10_1).f0) != 8) l0 (l0.length : Int) (wrap64 (x10_1 + 1))) else (impl_threadOk.l0 kj4 l0 true false l0 (l0.length : Int) (wrap64 (x10_1 + 1))))) = some r := by rw [if_pos rfl] at H; exact H
           clear H
           have H := H1
           clear H1
           by_cases c31 : ((rd_T85 l0 x10_1).f0) = 7
           ·rw [if_pos c31] at H
            have c31b0 : (((rd_T85 l0 x10_1).f0) == 7) = true := beq_iff_eq.mpr c31
            have c31b1 : (((rd_T85 l0 x10_1).f0) != 7) = false := bne_eq_false_iff_eq.mpr c31
            clear c31
            have H' := am_ H
            clear H
            have hcz32_0 : wc.cell? ⟨gb368, 0, none⟩ = some (.int .i64 ((rd_T85 l0 x10_1).f0)) := (blk_cell BK368.out 0).trans rfl
            have hcz32_1 : wc.cell? ⟨gb368, 1, none⟩ = some (.int .i64 ((rd_T85 l0 x10_1).f1)) := (blk_cell BK368.out 1).trans rfl
            have hcz32_2 : wc.cell? ⟨gb368, 2, none⟩ = some (.int .i64 ((rd_T85 l0 x10_1).f2)) := (blk_cell BK368.out 2).trans rfl
            have hfz32_0 := blk_frozen BK368.out 0
            have hfz32_1 := blk_frozen BK368.out 1
            have hfz32_2 := blk_frozen BK368.out 2
            go_wp2_with (first | ((with_reducible refine gate_callee (f := 116) rfl ?_); refine goesL_ (some 44) rfl rfl Try.func116 (by kernel_rfl) rfl #[.agg #[.int .i64 ((rd_T85 l0 x10_1).f0), .int .i64 ((rd_T85 l0 x10_1).f1), .int .i64 ((rd_T85 l0 x10_1).f2)]] rfl (by (try simp only [List.map_toArray, List.map_cons, List.map_nil]); first | done | rfl | (simp only [List.length_drop, List.length_take]; rfl)) ?_; (with_reducible refine (impl_Do_formed.calls kj4 ((rd_T85 l0 x10_1).f0) ((rd_T85 l0 x10_1).f1) ((rd_T85 l0 x10_1).f2) true _ A25.out).mono ?_); rintro e w33 ⟨rfl, hb⟩; refine ⟨_, rfl, ?_⟩; have n0_ := am_ (blk_below (bu BK368.out) hb); have n1_ := am_ (below_step z77_4 hb); clear BK368 HB; have BK368 := n0_; have HB := n1_; clear n0_ n1_; (try clear hb); (try clear hb2); (try clear hk); (try clear hi); have hcz34_0 : w33.cell? ⟨gb368, 0, none⟩ = some (.int .i64 ((rd_T85 l0 x10_1).f0)) := (blk_cell BK368.out 0).trans rfl; have hcz34_1 : w33.cell? ⟨gb368, 1, none⟩ = some (.int .i64 ((rd_T85 l0 x10_1).f1)) := (blk_cell BK368.out 1).trans rfl; have hcz34_2 : w33.cell? ⟨gb368, 2, none⟩ = some (.int .i64 ((rd_T85 l0 x10_1).f2)) := (blk_cell BK368.out 2).trans rfl; have hfz34_0 := blk_frozen BK368.out 0; have hfz34_1 := blk_frozen BK368.out 1; have hfz34_2 := blk_frozen BK368.out 2))
            go_roundg kj4
            case measure => have := HK1.out; have := HJ4.out; omega
            case rel => exact ⟨(true), (true), (wrap64 (x10_1 + 1)), z77_1, z77_1, z77_1, H', ⟨by have := HK1.out; have := HJ4.out; omega⟩, ⟨z77_4⟩⟩
           ·rw [if_neg c31] at H
            have c31b0 : (((rd_T85 l0 x10_1).f0) == 7) = false := beq_eq_false_iff_ne.mpr c31
            have c31b1 : (((rd_T85 l0 x10_1).f0) != 7) = true := bne_iff_ne.mpr c31
            by_cases c35 : x4_1 = true
            ·subst c35
             have H1 : (impl_threadOk.l0 kj4 l0 true (((rd_T85 l0 x10_1).f0) != 8) l0 (l0.length : Int) (wrap64 (x10_1 + 1))) = some r := by rw [if_pos rfl] at H; exact H
             clear H
             have H := H1
             clear H1
             have H' := am_ H
             clear H
             have hcz36_0 : wc.cell? ⟨gb368, 0, none⟩ = some (.int .i64 ((rd_T85 l0 x10_1).f0)) := (blk_cell BK368.out 0).trans rfl
             have hcz36_1 : wc.cell? ⟨gb368, 1, none⟩ = some (.int .i64 ((rd_T85 l0 x10_1).f1)) := (blk_cell BK368.out 1).trans rfl
             have hcz36_2 : wc.cell? ⟨gb368, 2, none⟩ = some (.int .i64 ((rd_T85 l0 x10_1).f2)) := (blk_cell BK368.out 2).trans rfl
             have hfz36_0 := blk_frozen BK368.out 0
             have hfz36_1 := blk_frozen BK368.out 1
             have hfz36_2 := blk_frozen BK368.out 2
             go_wp2_with (first | ((with_reducible refine gate_callee (f := 116) rfl ?_); refine goesL_ (some 44) rfl rfl Try.func116 (by kernel_rfl) rfl #[.agg #[.int .i64 ((rd_T85 l0 x10_1).f0), .int .i64 ((rd_T85 l0 x10_1).f1), .int .i64 ((rd_T85 l0 x10_1).f2)]] rfl (by (try simp only [List.map_toArray, List.map_cons, List.map_nil]); first | done | rfl | (simp only [List.length_drop, List.length_take]; rfl)) ?_; (with_reducible refine (impl_Do_formed.calls kj4 ((rd_T85 l0 x10_1).f0) ((rd_T85 l0 x10_1).f1) ((rd_T85 l0 x10_1).f2) true _ A25.out).mono ?_); rintro e w37 ⟨rfl, hb⟩; refine ⟨_, rfl, ?_⟩; have n0_ := am_ (blk_below (bu BK368.out) hb); have n1_ := am_ (below_step z77_4 hb); clear BK368 HB; have BK368 := n0_; have HB := n1_; clear n0_ n1_; (try clear hb); (try clear hb2); (try clear hk); (try clear hi); have hcz38_0 : w37.cell? ⟨gb368, 0, none⟩ = some (.int .i64 ((rd_T85 l0 x10_1).f0)) := (blk_cell BK368.out 0).trans rfl; have hcz38_1 : w37.cell? ⟨gb368, 1, none⟩ = some (.int .i64 ((rd_T85 l0 x10_1).f1)) := (blk_cell BK368.out 1).trans rfl; have hcz38_2 : w37.cell? ⟨gb368, 2, none⟩ = some (.int .i64 ((rd_T85 l0 x10_1).f2)) := (blk_cell BK368.out 2).trans rfl; have hfz38_0 := blk_frozen BK368.out 0; have hfz38_1 := blk_frozen BK368.out 1; have hfz38_2 := blk_frozen BK368.out 2))
             go_roundg kj4
             case measure => have := HK1.out; have := HJ4.out; omega
             case rel => exact ⟨(true), ((((rd_T85 l0 x10_1).f0) != 8)), (wrap64 (x10_1 + 1)), z77_1, z77_1, z77_1, H', ⟨by have := HK1.out; have := HJ4.out; omega⟩, ⟨z77_4⟩⟩
            ·replace c35 := Bool.eq_false_iff.mpr c35
             subst c35
             have H1 : (impl_threadOk.l0 kj4 l0 true false l0 (l0.length : Int) (wrap64 (x10_1 + 1))) = some r := by rw [if_neg (show ¬ (false = true) by decide)] at H; exact H
             clear H
             have H := H1
             clear H1
             have H' := am_ H
             clear H
             have hcz39_0 : wc.cell? ⟨gb368, 0, none⟩ = some (.int .i64 ((rd_T85 l0 x10_1).f0)) := (blk_cell BK368.out 0).trans rfl
             have hcz39_1 : wc.cell? ⟨gb368, 1, none⟩ = some (.int .i64 ((rd_T85 l0 x10_1).f1)) := (blk_cell BK368.out 1).trans rfl
             have hcz39_2 : wc.cell? ⟨gb368, 2, none⟩ = some (.int .i64 ((rd_T85 l0 x10_1).f2)) := (blk_cell BK368.out 2).trans rfl
             have hfz39_0 := blk_frozen BK368.out 0
             have hfz39_1 := blk_frozen BK368.out 1
             have hfz39_2 := blk_frozen BK368.out 2
             go_wp2_with (first | ((with_reducible refine gate_callee (f := 116) rfl ?_); refine goesL_ (some 44) rfl rfl Try.func116 (by kernel_rfl) rfl #[.agg #[.int .i64 ((rd_T85 l0 x10_1).f0), .int .i64 ((rd_T85 l0 x10_1).f1), .int .i64 ((rd_T85 l0 x10_1).f2)]] rfl (by (try simp only [List.map_toArray, List.map_cons, List.map_nil]); first | done | rfl | (simp only [List.length_drop, List.length_take]; rfl)) ?_; (with_reducible refine (impl_Do_formed.calls kj4 ((rd_T85 l0 x10_1).f0) ((rd_T85 l0 x10_1).f1) ((rd_T85 l0 x10_1).f2) true _ A25.out).mono ?_); rintro e w40 ⟨rfl, hb⟩; refine ⟨_, rfl, ?_⟩; have n0_ := am_ (blk_below (bu BK368.out) hb); have n1_ := am_ (below_step z77_4 hb); clear BK368 HB; have BK368 := n0_; have HB := n1_; clear n0_ n1_; (try clear hb); (try clear hb2); (try clear hk); (try clear hi); have hcz41_0 : w40.cell? ⟨gb368, 0, none⟩ = some (.int .i64 ((rd_T85 l0 x10_1).f0)) := (blk_cell BK368.out 0).trans rfl; have hcz41_1 : w40.cell? ⟨gb368, 1, none⟩ = some (.int .i64 ((rd_T85 l0 x10_1).f1)) := (blk_cell BK368.out 1).trans rfl; have hcz41_2 : w40.cell? ⟨gb368, 2, none⟩ = some (.int .i64 ((rd_T85 l0 x10_1).f2)) := (blk_cell BK368.out 2).trans rfl; have hfz41_0 := blk_frozen BK368.out 0; have hfz41_1 := blk_frozen BK368.out 1; have hfz41_2 := blk_frozen BK368.out 2))
             go_roundg kj4
             case measure => have := HK1.out; have := HJ4.out; omega
             case rel => exact ⟨(true), (false), (wrap64 (x10_1 + 1)), z77_1, z77_1, z77_1, H', ⟨by have := HK1.out; have := HJ4.out; omega⟩, ⟨z77_4⟩⟩
          ·replace c30 := Bool.eq_false_iff.mpr c30
           subst c30
           have H1 : ((impl_Do_reads.f ((rd_T85 l0 x10_1).f0) ((rd_T85 l0 x10_1).f1) ((rd_T85 l0 x10_1).f2)).bind fun t370 => (if ((rd_T85 l0 x10_1).f0) = 7 then (impl_threadOk.l0 kj4 l0 t370 true l0 (l0.length : Int) (wrap64 (x10_1 + 1))) else (if x4_1 = true then (impl_threadOk.l0 kj4 l0 t370 (((rd_T85 l0 x10_1).f0) != 8) l0 (l0.length : Int) (wrap64 (x10_1 + 1))) else (impl_threadOk.l0 kj4 l0 t370 false l0 (l0.length : Int) (wrap64 (x10_1 + 1)))))) = some r := by rw [if_neg (show ¬ (false = true) by decide)] at H; exact H
           clear H
           have H := H1
           clear H1
           replace H := Option.bind_eq_some_iff.mp H
           obtain ⟨t370, A420, H⟩ := H
           replace H : (if ((rd_T85 l0 x10_1).f0) = 7 then (impl_threadOk.l0 kj4 l0 t370 true l0 (l0.length : Int) (wrap64 (x10_1 + 1))) else (if x4_1 = true then (impl_threadOk.l0 kj4 l0 t370 (((rd_T85 l0 x10_1).f0) != 8) l0 (l0.length : Int) (wrap64 (x10_1 + 1))) else (impl_threadOk.l0 kj4 l0 t370 false l0 (l0.length : Int) (wrap64 (x10_1 + 1))))) = some r := H
           have A42 := am_ A420
           clear A420
           by_cases c43 : ((rd_T85 l0 x10_1).f0) = 7
           ·rw [if_pos c43] at H
            have c43b0 : (((rd_T85 l0 x10_1).f0) == 7) = true := beq_iff_eq.mpr c43
            have c43b1 : (((rd_T85 l0 x10_1).f0) != 7) = false := bne_eq_false_iff_eq.mpr c43
            clear c43
            have H' := am_ H
            clear H
            have hcz44_0 : wc.cell? ⟨gb368, 0, none⟩ = some (.int .i64 ((rd_T85 l0 x10_1).f0)) := (blk_cell BK368.out 0).trans rfl
            have hcz44_1 : wc.cell? ⟨gb368, 1, none⟩ = some (.int .i64 ((rd_T85 l0 x10_1).f1)) := (blk_cell BK368.out 1).trans rfl
            have hcz44_2 : wc.cell? ⟨gb368, 2, none⟩ = some (.int .i64 ((rd_T85 l0 x10_1).f2)) := (blk_cell BK368.out 2).trans rfl
            have hfz44_0 := blk_frozen BK368.out 0
            have hfz44_1 := blk_frozen BK368.out 1
            have hfz44_2 := blk_frozen BK368.out 2
            go_wp2_with (first | ((with_reducible refine gate_callee (f := 116) rfl ?_); refine goesL_ (some 44) rfl rfl Try.func116 (by kernel_rfl) rfl #[.agg #[.int .i64 ((rd_T85 l0 x10_1).f0), .int .i64 ((rd_T85 l0 x10_1).f1), .int .i64 ((rd_T85 l0 x10_1).f2)]] rfl (by (try simp only [List.map_toArray, List.map_cons, List.map_nil]); first | done | rfl | (simp only [List.length_drop, List.length_take]; rfl)) ?_; (with_reducible refine (impl_Do_formed.calls kj4 ((rd_T85 l0 x10_1).f0) ((rd_T85 l0 x10_1).f1) ((rd_T85 l0 x10_1).f2) true _ A25.out).mono ?_); rintro e w45 ⟨rfl, hb⟩; refine ⟨_, rfl, ?_⟩; have n0_ := am_ (blk_below (bu BK368.out) hb); have n1_ := am_ (below_step z77_4 hb); clear BK368 HB; have BK368 := n0_; have HB := n1_; clear n0_ n1_; (try clear hb); (try clear hb2); (try clear hk); (try clear hi); have hcz46_0 : w45.cell? ⟨gb368, 0, none⟩ = some (.int .i64 ((rd_T85 l0 x10_1).f0)) := (blk_cell BK368.out 0).trans rfl; have hcz46_1 : w45.cell? ⟨gb368, 1, none⟩ = some (.int .i64 ((rd_T85 l0 x10_1).f1)) := (blk_cell BK368.out 1).trans rfl; have hcz46_2 : w45.cell? ⟨gb368, 2, none⟩ = some (.int .i64 ((rd_T85 l0 x10_1).f2)) := (blk_cell BK368.out 2).trans rfl; have hfz46_0 := blk_frozen BK368.out 0; have hfz46_1 := blk_frozen BK368.out 1; have hfz46_2 := blk_frozen BK368.out 2) | (go_at_call 114; (with_reducible refine (impl_Do_reads.calls ((rd_T85 l0 x10_1).f0) ((rd_T85 l0 x10_1).f1) ((rd_T85 l0 x10_1).f2) t370 _ A42.out).mono ?_); rintro e w47 ⟨rfl, hb⟩; have n0_ := am_ (blk_below (bu BK368.out) hb); have n1_ := am_ (below_step z77_4 hb); clear BK368 HB; have BK368 := n0_; have HB := n1_; clear n0_ n1_; (try clear hb); (try clear hb2); (try clear hk); (try clear hi); have hcz48_0 : w47.cell? ⟨gb368, 0, none⟩ = some (.int .i64 ((rd_T85 l0 x10_1).f0)) := (blk_cell BK368.out 0).trans rfl; have hcz48_1 : w47.cell? ⟨gb368, 1, none⟩ = some (.int .i64 ((rd_T85 l0 x10_1).f1)) := (blk_cell BK368.out 1).trans rfl; have hcz48_2 : w47.cell? ⟨gb368, 2, none⟩ = some (.int .i64 ((rd_T85 l0 x10_1).f2)) := (blk_cell BK368.out 2).trans rfl; have hfz48_0 := blk_frozen BK368.out 0; have hfz48_1 := blk_frozen BK368.out 1; have hfz48_2 := blk_frozen BK368.out 2))
            go_roundg kj4
            case measure => have := HK1.out; have := HJ4.out; omega
            case rel => exact ⟨(t370), (true), (wrap64 (x10_1 + 1)), z77_1, z77_1, z77_1, H', ⟨by have := HK1.out; have := HJ4.out; omega⟩, ⟨z77_4⟩⟩
           ·rw [if_neg c43] at H
            have c43b0 : (((rd_T85 l0 x10_1).f0) == 7) = false := beq_eq_false_iff_ne.mpr c43
            have c43b1 : (((rd_T85 l0 x10_1).f0) != 7) = true := bne_iff_ne.mpr c43
            by_cases c49 : x4_1 = true
            ·subst c49
             have H1 : (impl_threadOk.l0 kj4 l0 t370 (((rd_T85 l0 x10_1).f0) != 8) l0 (l0.length : Int) (wrap64 (x10_1 + 1))) = some r := by rw [if_pos rfl] at H; exact H
             clear H
             have H := H1
             clear H1
             have H' := am_ H
             clear H
             have hcz50_0 : wc.cell? ⟨gb368, 0, none⟩ = some (.int .i64 ((rd_T85 l0 x10_1).f0)) := (blk_cell BK368.out 0).trans rfl
             have hcz50_1 : wc.cell? ⟨gb368, 1, none⟩ = some (.int .i64 ((rd_T85 l0 x10_1).f1)) := (blk_cell BK368.out 1).trans rfl
             have hcz50_2 : wc.cell? ⟨gb368, 2, none⟩ = some (.int .i64 ((rd_T85 l0 x10_1).f2)) := (blk_cell BK368.out 2).trans rfl
             have hfz50_0 := blk_frozen BK368.out 0
             have hfz50_1 := blk_frozen BK368.out 1
             have hfz50_2 := blk_frozen BK368.out 2
             go_wp2_with (first | ((with_reducible refine gate_callee (f := 116) rfl ?_); refine goesL_ (some 44) rfl rfl Try.func116 (by kernel_rfl) rfl #[.agg #[.int .i64 ((rd_T85 l0 x10_1).f0), .int .i64 ((rd_T85 l0 x10_1).f1), .int .i64 ((rd_T85 l0 x10_1).f2)]] rfl (by (try simp only [List.map_toArray, List.map_cons, List.map_nil]); first | done | rfl | (simp only [List.length_drop, List.length_take]; rfl)) ?_; (with_reducible refine (impl_Do_formed.calls kj4 ((rd_T85 l0 x10_1).f0) ((rd_T85 l0 x10_1).f1) ((rd_T85 l0 x10_1).f2) true _ A25.out).mono ?_); rintro e w51 ⟨rfl, hb⟩; refine ⟨_, rfl, ?_⟩; have n0_ := am_ (blk_below (bu BK368.out) hb); have n1_ := am_ (below_step z77_4 hb); clear BK368 HB; have BK368 := n0_; have HB := n1_; clear n0_ n1_; (try clear hb); (try clear hb2); (try clear hk); (try clear hi); have hcz52_0 : w51.cell? ⟨gb368, 0, none⟩ = some (.int .i64 ((rd_T85 l0 x10_1).f0)) := (blk_cell BK368.out 0).trans rfl; have hcz52_1 : w51.cell? ⟨gb368, 1, none⟩ = some (.int .i64 ((rd_T85 l0 x10_1).f1)) := (blk_cell BK368.out 1).trans rfl; have hcz52_2 : w51.cell? ⟨gb368, 2, none⟩ = some (.int .i64 ((rd_T85 l0 x10_1).f2)) := (blk_cell BK368.out 2).trans rfl; have hfz52_0 := blk_frozen BK368.out 0; have hfz52_1 := blk_frozen BK368.out 1; have hfz52_2 := blk_frozen BK368.out 2) | (go_at_call 114; (with_reducible refine (impl_Do_reads.calls ((rd_T85 l0 x10_1).f0) ((rd_T85 l0 x10_1).f1) ((rd_T85 l0 x10_1).f2) t370 _ A42.out).mono ?_); rintro e w53 ⟨rfl, hb⟩; have n0_ := am_ (blk_below (bu BK368.out) hb); have n1_ := am_ (below_step z77_4 hb); clear BK368 HB; have BK368 := n0_; have HB := n1_; clear n0_ n1_; (try clear hb); (try clear hb2); (try clear hk); (try clear hi); have hcz54_0 : w53.cell? ⟨gb368, 0, none⟩ = some (.int .i64 ((rd_T85 l0 x10_1).f0)) := (blk_cell BK368.out 0).trans rfl; have hcz54_1 : w53.cell? ⟨gb368, 1, none⟩ = some (.int .i64 ((rd_T85 l0 x10_1).f1)) := (blk_cell BK368.out 1).trans rfl; have hcz54_2 : w53.cell? ⟨gb368, 2, none⟩ = some (.int .i64 ((rd_T85 l0 x10_1).f2)) := (blk_cell BK368.out 2).trans rfl; have hfz54_0 := blk_frozen BK368.out 0; have hfz54_1 := blk_frozen BK368.out 1; have hfz54_2 := blk_frozen BK368.out 2))
             go_roundg kj4
             case measure => have := HK1.out; have := HJ4.out; omega
             case rel => exact ⟨(t370), ((((rd_T85 l0 x10_1).f0) != 8)), (wrap64 (x10_1 + 1)), z77_1, z77_1, z77_1, H', ⟨by have := HK1.out; have := HJ4.out; omega⟩, ⟨z77_4⟩⟩
            ·replace c49 := Bool.eq_false_iff.mpr c49
             subst c49
             have H1 : (impl_threadOk.l0 kj4 l0 t370 false l0 (l0.length : Int) (wrap64 (x10_1 + 1))) = some r := by rw [if_neg (show ¬ (false = true) by decide)] at H; exact H
             clear H
             have H := H1
             clear H1
             have H' := am_ H
             clear H
             have hcz55_0 : wc.cell? ⟨gb368, 0, none⟩ = some (.int .i64 ((rd_T85 l0 x10_1).f0)) := (blk_cell BK368.out 0).trans rfl
             have hcz55_1 : wc.cell? ⟨gb368, 1, none⟩ = some (.int .i64 ((rd_T85 l0 x10_1).f1)) := (blk_cell BK368.out 1).trans rfl
             have hcz55_2 : wc.cell? ⟨gb368, 2, none⟩ = some (.int .i64 ((rd_T85 l0 x10_1).f2)) := (blk_cell BK368.out 2).trans rfl
             have hfz55_0 := blk_frozen BK368.out 0
             have hfz55_1 := blk_frozen BK368.out 1
             have hfz55_2 := blk_frozen BK368.out 2
             go_wp2_with (first | ((with_reducible refine gate_callee (f := 116) rfl ?_); refine goesL_ (some 44) rfl rfl Try.func116 (by kernel_rfl) rfl #[.agg #[.int .i64 ((rd_T85 l0 x10_1).f0), .int .i64 ((rd_T85 l0 x10_1).f1), .int .i64 ((rd_T85 l0 x10_1).f2)]] rfl (by (try simp only [List.map_toArray, List.map_cons, List.map_nil]); first | done | rfl | (simp only [List.length_drop, List.length_take]; rfl)) ?_; (with_reducible refine (impl_Do_formed.calls kj4 ((rd_T85 l0 x10_1).f0) ((rd_T85 l0 x10_1).f1) ((rd_T85 l0 x10_1).f2) true _ A25.out).mono ?_); rintro e w56 ⟨rfl, hb⟩; refine ⟨_, rfl, ?_⟩; have n0_ := am_ (blk_below (bu BK368.out) hb); have n1_ := am_ (below_step z77_4 hb); clear BK368 HB; have BK368 := n0_; have HB := n1_; clear n0_ n1_; (try clear hb); (try clear hb2); (try clear hk); (try clear hi); have hcz57_0 : w56.cell? ⟨gb368, 0, none⟩ = some (.int .i64 ((rd_T85 l0 x10_1).f0)) := (blk_cell BK368.out 0).trans rfl; have hcz57_1 : w56.cell? ⟨gb368, 1, none⟩ = some (.int .i64 ((rd_T85 l0 x10_1).f1)) := (blk_cell BK368.out 1).trans rfl; have hcz57_2 : w56.cell? ⟨gb368, 2, none⟩ = some (.int .i64 ((rd_T85 l0 x10_1).f2)) := (blk_cell BK368.out 2).trans rfl; have hfz57_0 := blk_frozen BK368.out 0; have hfz57_1 := blk_frozen BK368.out 1; have hfz57_2 := blk_frozen BK368.out 2) | (go_at_call 114; (with_reducible refine (impl_Do_reads.calls ((rd_T85 l0 x10_1).f0) ((rd_T85 l0 x10_1).f1) ((rd_T85 l0 x10_1).f2) t370 _ A42.out).mono ?_); rintro e w58 ⟨rfl, hb⟩; have n0_ := am_ (blk_below (bu BK368.out) hb); have n1_ := am_ (below_step z77_4 hb); clear BK368 HB; have BK368 := n0_; have HB := n1_; clear n0_ n1_; (try clear hb); (try clear hb2); (try clear hk); (try clear hi); have hcz59_0 : w58.cell? ⟨gb368, 0, none⟩ = some (.int .i64 ((rd_T85 l0 x10_1).f0)) := (blk_cell BK368.out 0).trans rfl; have hcz59_1 : w58.cell? ⟨gb368, 1, none⟩ = some (.int .i64 ((rd_T85 l0 x10_1).f1)) := (blk_cell BK368.out 1).trans rfl; have hcz59_2 : w58.cell? ⟨gb368, 2, none⟩ = some (.int .i64 ((rd_T85 l0 x10_1).f2)) := (blk_cell BK368.out 2).trans rfl; have hfz59_0 := blk_frozen BK368.out 0; have hfz59_1 := blk_frozen BK368.out 1; have hfz59_2 := blk_frozen BK368.out 2))
             go_roundg kj4
             case measure => have := HK1.out; have := HJ4.out; omega
             case rel => exact ⟨(t370), (false), (wrap64 (x10_1 + 1)), z77_1, z77_1, z77_1, H', ⟨by have := HK1.out; have := HJ4.out; omega⟩, ⟨z77_4⟩⟩
        ·replace c26 := Bool.eq_false_iff.mpr c26
         subst c26
         have H1 : (some false) = some r := by rw [if_neg (show ¬ (false = true) by decide)] at H; exact H
         clear H
         have H := H1
         clear H1
         obtain rfl := Option.some.inj H
         have hcz60_0 : wc.cell? ⟨gb368, 0, none⟩ = some (.int .i64 ((rd_T85 l0 x10_1).f0)) := (blk_cell BK368.out 0).trans rfl
         have hcz60_1 : wc.cell? ⟨gb368, 1, none⟩ = some (.int .i64 ((rd_T85 l0 x10_1).f1)) := (blk_cell BK368.out 1).trans rfl
         have hcz60_2 : wc.cell? ⟨gb368, 2, none⟩ = some (.int .i64 ((rd_T85 l0 x10_1).f2)) := (blk_cell BK368.out 2).trans rfl
         have hfz60_0 := blk_frozen BK368.out 0
         have hfz60_1 := blk_frozen BK368.out 1
         have hfz60_2 := blk_frozen BK368.out 2
         go_wp2_with (first | ((with_reducible refine gate_callee (f := 116) rfl ?_); refine goesL_ (some 44) rfl rfl Try.func116 (by kernel_rfl) rfl #[.agg #[.int .i64 ((rd_T85 l0 x10_1).f0), .int .i64 ((rd_T85 l0 x10_1).f1), .int .i64 ((rd_T85 l0 x10_1).f2)]] rfl (by (try simp only [List.map_toArray, List.map_cons, List.map_nil]); first | done | rfl | (simp only [List.length_drop, List.length_take]; rfl)) ?_; (with_reducible refine (impl_Do_formed.calls kj4 ((rd_T85 l0 x10_1).f0) ((rd_T85 l0 x10_1).f1) ((rd_T85 l0 x10_1).f2) false _ A25.out).mono ?_); rintro e w61 ⟨rfl, hb⟩; refine ⟨_, rfl, ?_⟩; have n0_ := am_ (blk_below (bu BK368.out) hb); have n1_ := am_ (below_step z77_4 hb); clear BK368 HB; have BK368 := n0_; have HB := n1_; clear n0_ n1_; (try clear hb); (try clear hb2); (try clear hk); (try clear hi)))
         go_ret
         exact ⟨z77_2, z77_4⟩
     ·rw [if_neg c4] at H
      exact absurd H (by simp)
    ·rw [if_neg c3] at H
     exact absurd H (by simp)
   ·rw [if_neg c2] at H
    have c2b0 : decide (x10_1 < (l0.length : Int)) = false := decide_eq_false c2
    clear c2
    by_cases c62 : x4_1 = true
    ·subst c62
     have H1 : (some false) = some r := by rw [if_pos rfl] at H; exact H
     clear H
     have H := H1
     clear H1
     obtain rfl := Option.some.inj H
     go_wp2
     go_ret
     exact ⟨z77_2, z77_3⟩
    ·replace c62 := Bool.eq_false_iff.mpr c62
     subst c62
     have H1 : (some (decide ((l0.length : Int) ≤ 7))) = some r := by rw [if_neg (show ¬ (false = true) by decide)] at H; exact H
     clear H
     have H := H1
     clear H1
     obtain rfl := Option.some.inj H
     go_wp2
     go_ret
     exact ⟨z77_2, z77_3⟩

end Go.Proofs.Ytefkbmhkhpekjaa.PB

namespace Go.Proofs.Ytefkbmhkhpekjaa.PB
open Go.RowKit Go.Proofs.YtefkbmhkhpekjaaW.PrintWords Go.Proofs.YtefkbmhkhpekjaaW.PrintLast Go.Proofs.YtefkbmhkhpekjaaW.PrintMore
attribute [local go_sem] max2_int min2_int max_two min_two max_three min_three max_four min_four   -- for this text's walks alone
open Go.Proofs.YtefkbmhkhpekjaaMine
set_option linter.unusedVariables false
set_option linter.unusedSimpArgs false

theorem z31_1 {p : Prop} (h : p := by first | rfl | (simp; done) | (simp [*]; done)) : p := h
theorem z31_2 {p : Prop} (h : p := by first | (with_reducible assumption) | assumption) : p := h
theorem z31_3 {p : Prop} (h : p := by first | rfl | (simp [errW_none, errW_some] <;> rfl) | (simp [*, errW_none, errW_some] <;> rfl)) : p := h
theorem z31_4 {p : Prop} (h : p := by repeat (first | (with_reducible first | exact HB.out | apply below_alloc | apply pw_below_drewN | apply below_drew1) | exact HB.out)) : p := h
theorem z31_5 {p : Prop} (h : p := by repeat (first | (with_reducible first | exact HB.out | apply below_alloc | apply pw_below_drewN | apply below_drew1 | refine below_set ?_ GE371.out) | exact HB.out)) : p := h
theorem z31_6 {p : Prop} (h : p := by repeat (first | (with_reducible first | exact HB.out | apply below_alloc | apply pw_below_drewN | apply below_drew1 | refine below_set ?_ GE371.out | refine below_set ?_ GE375.out) | exact HB.out)) : p := h
theorem z31_7 {p : Prop} (h : p := by (with_reducible repeat (first | refine blk_drewN ?_ _ | refine blk_drew ?_ | refine blk_alloc ?_ _)); refine blk_far ?_ NB371_375.out _; (with_reducible repeat (first | refine blk_drewN ?_ _ | refine blk_drew ?_ | refine blk_alloc ?_ _)); refine blk_far ?_ NB371_375.out _; (with_reducible repeat (first | refine blk_drewN ?_ _ | refine blk_drew ?_ | refine blk_alloc ?_ _)); refine blk_far ?_ NB371_375.out _; (with_reducible repeat (first | refine blk_drewN ?_ _ | refine blk_drew ?_ | refine blk_alloc ?_ _)); exact BK371.out) : p := h
theorem z31_8 {p : Prop} (h : p := by (with_reducible repeat (first | refine blk_drewN ?_ _ | refine blk_drew ?_ | refine blk_alloc ?_ _)); refine blk_put (cs := #[.int .i64 ((rd_T85 (rd_L7 l0_0 x16_1) x29_2).f0), .int .i64 ((rd_T85 (rd_L7 l0_0 x16_1) x29_2).f1), .int .i64 0]) ?_ 2 _ rfl; (with_reducible repeat (first | refine blk_drewN ?_ _ | refine blk_drew ?_ | refine blk_alloc ?_ _)); refine blk_put (cs := #[.int .i64 ((rd_T85 (rd_L7 l0_0 x16_1) x29_2).f0), .int .i64 0, .int .i64 0]) ?_ 1 _ rfl; (with_reducible repeat (first | refine blk_drewN ?_ _ | refine blk_drew ?_ | refine blk_alloc ?_ _)); refine blk_put (cs := #[.int .i64 0, .int .i64 0, .int .i64 0]) ?_ 0 _ rfl; (with_reducible repeat (first | refine blk_drewN ?_ _ | refine blk_drew ?_ | refine blk_alloc ?_ _)); exact BK375.out) : p := h
/-! ### impl_ProgOk: function 31 -/
mutual
def impl_ProgOk.l0 : Nat → Int → Int → List (List (S85)) → Int → Int → Option (Bool)
  | 0, _, _, _, _, _ => none
  | k + 1, x3, x4, x14, x15, x16 => if x16 < x15 then (if 0 ≤ x16 then (if x16 < (x14.length : Int) then ((impl_threadOk.f k (rd_L7 x14 x16)).bind fun t373 => (if t373 = true then (impl_ProgOk.l1 k (wrap64 (x3 + ((rd_L7 x14 x16).length : Int))) x4 x14 x15 x16 (rd_L7 x14 x16) ((rd_L7 x14 x16).length : Int) 0) else (some false))) else (none)) else (none)) else (if x3 ≤ 14 then (some (decide (x4 ≤ 6))) else (some false))
def impl_ProgOk.l1 : Nat → Int → Int → List (List (S85)) → Int → Int → List (S85) → Int → Int → Option (Bool)
  | 0, _, _, _, _, _, _, _, _ => none
  | k + 1, x3, x4, x14, x15, x16, x27, x28, x29 => if x29 < x28 then (if 0 ≤ x29 then (if x29 < (x27.length : Int) then ((impl_Do_uses.f ((rd_T85 x27 x29).f0) ((rd_T85 x27 x29).f1) ((rd_T85 x27 x29).f2)).bind fun t376 => (if t376 = true then (impl_ProgOk.l1 k x3 (wrap64 (x4 + 1)) x14 x15 x16 x27 x28 (wrap64 (x29 + 1))) else (impl_ProgOk.l1 k x3 x4 x14 x15 x16 x27 x28 (wrap64 (x29 + 1))))) else (none)) else (none)) else (impl_ProgOk.l0 k x3 x4 x14 x15 (wrap64 (x16 + 1)))
end
def impl_ProgOk.f (k : Nat) (l0_0 : List (List (S85))) : Option (Bool) := if (l0_0.length : Int) > 3 then (some false) else (impl_ProgOk.l0 k 0 0 l0_0 (l0_0.length : Int) 0)
set_option maxHeartbeats 8000000 in
set_option maxRecDepth 100000 in
theorem impl_ProgOk.calls (k : Nat) (A0_0 : Option Addr) (c0_0 : Nat) (l0_0 : List (List (S85))) (r : Bool) (w : World) (hr0_0 : Kd.C (Kd.slice 85 k85) w A0_0 l0_0.length l0_0) (hc0_0 : l0_0.length ≤ c0_0) (h : impl_ProgOk.f k l0_0 = some r) :
  Calls Try.prog 31 #[.agg #[.slice A0_0 l0_0.length c0_0]] w fun e w' => e = .returned (.bool r) ∧ Below w.heap.size w w' := by
 have hu35 := Try.underlying35
 have hu85 := Try.underlying85
 have HR0_0 := am_ hr0_0
 have HC0_0 := am_ hc0_0
 clear hr0_0 hc0_0
 have HB := am_ (Below.refl w.heap.size w)
 have H : (if (l0_0.length : Int) > 3 then (some false) else (impl_ProgOk.l0 k 0 0 l0_0 (l0_0.length : Int) 0)) = some r := h
 clear h
 by_cases c2 : (l0_0.length : Int) > 3
 ·rw [if_pos c2] at H
  have c2b0 : decide (3 < (l0_0.length : Int)) = true := decide_eq_true c2
  have c2b1 : decide (3 < l0_0.length) = true := decide_eq_true (by omega)
  clear c2
  obtain rfl := Option.some.inj H
  go_enter Try.func31, Try.ntmps31
  go_wp2_with (first | ((with_reducible refine gate_dst (N := 1) rfl ?_); refine box_event ?hg (N := 1) ?hd (cs := #[.slice A0_0 l0_0.length c0_0]) (t := 35) ?hr ?_; (case hd => rfl); (case hg => rfl); (case hr => first | (go_simp; done) | (go_simp; rfl)); intro gb371 hg w3 hbox hb; have n0_ := am_ (below_step z31_4 hb); have n1_ := am_ (hbox); have n2_ := am_ (by rw [hg]; exact (below_size z31_4) : w.heap.size ≤ gb371); have n3_ := am_ (by rw [hg]; exact (below_size z31_4) : w.heap.size ≤ gb371); clear HB; have HB := n0_; have BK371 := n1_; have GW371 := n2_; have GE371 := n3_; clear n0_ n1_ n2_ n3_; clear hb hbox hg; have hcz4_0 : w3.cell? ⟨gb371, 0, none⟩ = some (.slice A0_0 l0_0.length c0_0) := (blk_cell BK371.out 0).trans rfl; have hfz4_0 := blk_frozen BK371.out 0))
  go_ret
  exact ⟨z31_3, z31_5⟩
 ·rw [if_neg c2] at H
  have c2b0 : decide (3 < (l0_0.length : Int)) = false := decide_eq_false c2
  have c2b1 : decide (3 < l0_0.length) = false := decide_eq_false (by omega)
  clear c2
  have H' := am_ H
  clear H
  go_enter Try.func31, Try.ntmps31
  go_wp2_with (first | ((with_reducible refine gate_dst (N := 1) rfl ?_); refine box_event ?hg (N := 1) ?hd (cs := #[.slice A0_0 l0_0.length c0_0]) (t := 35) ?hr ?_; (case hd => rfl); (case hg => rfl); (case hr => first | (go_simp; done) | (go_simp; rfl)); intro gb371 hg w5 hbox hb; have n0_ := am_ (below_step z31_4 hb); have n1_ := am_ (hbox); have n2_ := am_ (by rw [hg]; exact (below_size z31_4) : w.heap.size ≤ gb371); have n3_ := am_ (by rw [hg]; exact (below_size z31_4) : w.heap.size ≤ gb371); clear HB; have HB := n0_; have BK371 := n1_; have GW371 := n2_; have GE371 := n3_; clear n0_ n1_ n2_ n3_; clear hb hbox hg; have hcz6_0 : w5.cell? ⟨gb371, 0, none⟩ = some (.slice A0_0 l0_0.length c0_0) := (blk_cell BK371.out 0).trans rfl; have hfz6_0 := blk_frozen BK371.out 0))
  go_loopg [3, 4, 16] k (fun kq v3 v4 v16 w' => ∃ (x3_1 : Int) (x4_1 : Int) (x16_1 : Int), v3 = .int .i64 x3_1 ∧ v4 = .int .i64 x4_1 ∧ v16 = .int .i64 x16_1 ∧ Aside0 (impl_ProgOk.l0 kq x3_1 x4_1 l0_0 (l0_0.length : Int) x16_1 = some r) ∧ Aside0 (kq ≤ k) ∧ Aside0 (w'.heap[gb371]? = some (.cells #[(.slice A0_0 l0_0.length c0_0)] 35 (0, 0))) ∧ Aside0 (Below w.heap.size w w'))
  case atStart => exact ⟨(0), (0), (0), z31_1, z31_1, z31_1, H', ⟨Nat.le_refl _⟩, ⟨bu BK371.out⟩, ⟨z31_5⟩⟩
  case round =>
   clear H'
   obtain ⟨x3_1, x4_1, x16_1, rfl, rfl, rfl, HA, HK1, BK371, HB⟩ := hrel
   cases gk with
   | zero => exact absurd HA.out (by simp [impl_ProgOk.l0])
   | succ k1 =>
    have H := HA.out
    clear HA
    simp only [impl_ProgOk.l0] at H
    by_cases c7 : x16_1 < (l0_0.length : Int)
    ·rw [if_pos c7] at H
     have c7b0 : decide (x16_1 < (l0_0.length : Int)) = true := decide_eq_true c7
     clear c7
     by_cases c8 : 0 ≤ x16_1
     ·rw [if_pos c8] at H
      have c8b0 : decide (0 ≤ x16_1) = true := decide_eq_true c8
      clear c8
      by_cases c9 : x16_1 < (l0_0.length : Int)
      ·rw [if_pos c9] at H
       have c9b0 : decide (x16_1 < (l0_0.length : Int)) = true := decide_eq_true c9
       clear c9
       replace H := Option.bind_eq_some_iff.mp H
       obtain ⟨t373, A100, H⟩ := H
       replace H : (if t373 = true then (impl_ProgOk.l1 k1 (wrap64 (x3_1 + ((rd_L7 l0_0 x16_1).length : Int))) x4_1 l0_0 (l0_0.length : Int) x16_1 (rd_L7 l0_0 x16_1) ((rd_L7 l0_0 x16_1).length : Int) 0) else (some false)) = some r := H
       have A10 := am_ A100
       clear A100
       by_cases c11 : t373 = true
       ·subst c11
        have H1 : (impl_ProgOk.l1 k1 (wrap64 (x3_1 + ((rd_L7 l0_0 x16_1).length : Int))) x4_1 l0_0 (l0_0.length : Int) x16_1 (rd_L7 l0_0 x16_1) ((rd_L7 l0_0 x16_1).length : Int) 0) = some r := by rw [if_pos rfl] at H; exact H
        clear H
        have H := H1
        clear H1
        have H' := am_ H
        clear H
        have p372 : 0 ≤ (x16_1 : Int) := of_decide_eq_true z31_2
        have q372 : x16_1 < (l0_0.length : Int) := of_decide_eq_true z31_2
        obtain ⟨ad372, A372_0, c372_0, e372, hx372_0, hl372_0, hi372_0⟩ := at_L7 HR0_0.out x16_1 p372 q372
        cases e372
        replace hx372_0 := (HB.out.cell (World.block_lt_of_cell? w _ hx372_0)).trans hx372_0
        have HR372_0 := am_ hi372_0
        have HC372_0 := am_ hl372_0
        clear hi372_0 hl372_0
        replace p372 := eq_true p372
        replace q372 := eq_true q372
        go_wp2_with (first | ((with_reducible refine gate_callee (f := 77) rfl ?_); refine goesL_ (some 21) rfl rfl Try.func77 (by kernel_rfl) rfl #[.slice A372_0 (rd_L7 l0_0 x16_1).length c372_0] rfl (by (try simp only [List.map_toArray, List.map_cons, List.map_nil]); first | done | rfl | (simp only [List.length_drop, List.length_take]; rfl)) ?_; (with_reducible refine (impl_threadOk.calls k1 _ _ (rd_L7 l0_0 x16_1) true _ ?side1 ?side2 A10.out).mono ?_); (case side1 => repeat (first | exact (Kd.C_below HR372_0.out HB.out) | (with_reducible refine Kd.C_alloc ?_ _) | (with_reducible refine Kd.C_drewN ?_ _) | (with_reducible refine Kd.C_drew ?_))); (case side2 => exact HC372_0.out); rintro e w12 ⟨rfl, hb⟩; refine ⟨_, rfl, ?_⟩; have n0_ := am_ (blk_below (bu BK371.out) hb); have n1_ := am_ (below_step z31_5 hb); clear BK371 HB; have BK371 := n0_; have HB := n1_; clear n0_ n1_; (try clear hb); (try clear hb2); (try clear hk); (try clear hi)))
        go_loopg [4, 29] k1 (fun kq v4 v29 w' => ∃ (x4_2 : Int) (x29_2 : Int), v4 = .int .i64 x4_2 ∧ v29 = .int .i64 x29_2 ∧ Aside0 (impl_ProgOk.l1 kq (wrap64 (x3_1 + ((rd_L7 l0_0 x16_1).length : Int))) x4_2 l0_0 (l0_0.length : Int) x16_1 (rd_L7 l0_0 x16_1) ((rd_L7 l0_0 x16_1).length : Int) x29_2 = some r) ∧ Aside0 (kq ≤ k1) ∧ Aside0 (w'.heap[gb371]? = some (.cells #[(.slice (some ad372) l0_0.length c0_0)] 35 (0, 0))) ∧ Aside0 (Below w.heap.size w w'))
        case atStart => exact ⟨(x4_1), (0), z31_1, z31_1, H', ⟨Nat.le_refl _⟩, ⟨bu BK371.out⟩, ⟨z31_5⟩⟩
        case round =>
         clear H'
         obtain ⟨x4_2, x29_2, rfl, rfl, HA, HK2, BK371, HB⟩ := hrel
         cases gk with
         | zero => exact absurd HA.out (by simp [impl_ProgOk.l1])
         | succ k2 =>
          have H := HA.out
          clear HA
          simp only [impl_ProgOk.l1] at H
          by_cases c13 : x29_2 < ((rd_L7 l0_0 x16_1).length : Int)
          ·rw [if_pos c13] at H
           have c13b0 : decide (x29_2 < ((rd_L7 l0_0 x16_1).length : Int)) = true := decide_eq_true c13
           clear c13
           by_cases c14 : 0 ≤ x29_2
           ·rw [if_pos c14] at H
            have c14b0 : decide (0 ≤ x29_2) = true := decide_eq_true c14
            clear c14
            by_cases c15 : x29_2 < ((rd_L7 l0_0 x16_1).length : Int)
            ·rw [if_pos c15] at H
             have c15b0 : decide (x29_2 < ((rd_L7 l0_0 x16_1).length : Int)) = true := decide_eq_true c15
             clear c15
             replace H := Option.bind_eq_some_iff.mp H
             obtain ⟨t376, A160, H⟩ := H
             replace H : (if t376 = true then (impl_ProgOk.l1 k2 (wrap64 (x3_1 + ((rd_L7 l0_0 x16_1).length : Int))) (wrap64 (x4_2 + 1)) l0_0 (l0_0.length : Int) x16_1 (rd_L7 l0_0 x16_1) ((rd_L7 l0_0 x16_1).length : Int) (wrap64 (x29_2 + 1))) else (impl_ProgOk.l1 k2 (wrap64 (x3_1 + ((rd_L7 l0_0 x16_1).length : Int))) x4_2 l0_0 (l0_0.length : Int) x16_1 (rd_L7 l0_0 x16_1) ((rd_L7 l0_0 x16_1).length : Int) (wrap64 (x29_2 + 1)))) = some r := H
             have A16 := am_ A160
             clear A160
             by_cases c17 : t376 = true
             ·subst c17
              have H1 : (impl_ProgOk.l1 k2 (wrap64 (x3_1 + ((rd_L7 l0_0 x16_1).length : Int))) (wrap64 (x4_2 + 1)) l0_0 (l0_0.length : Int) x16_1 (rd_L7 l0_0 x16_1) ((rd_L7 l0_0 x16_1).length : Int) (wrap64 (x29_2 + 1))) = some r := by rw [if_pos rfl] at H; exact H
              clear H
              have H := H1
              clear H1
              have H' := am_ H
              clear H
              have p374 : 0 ≤ (x29_2 : Int) := of_decide_eq_true z31_2
              have q374 : x29_2 < ((rd_L7 l0_0 x16_1).length : Int) := of_decide_eq_true z31_2
              obtain ⟨ad374, e374, hx374_0, hx374_1, hx374_2⟩ := at_T85 HR372_0.out x29_2 p374 q374
              cases e374
              replace hx374_0 := (HB.out.cell (World.block_lt_of_cell? w _ hx374_0)).trans hx374_0
              replace hx374_1 := (HB.out.cell (World.block_lt_of_cell? w _ hx374_1)).trans hx374_1
              replace hx374_2 := (HB.out.cell (World.block_lt_of_cell? w _ hx374_2)).trans hx374_2
              replace p374 := eq_true p374
              replace q374 := eq_true q374
              go_wp2_with (first | ((with_reducible refine gate_dst (N := 8) rfl ?_); refine box_event ?hg (N := 8) ?hd (cs := #[.int .i64 0, .int .i64 0, .int .i64 0]) (t := 85) ?hr ?_; (case hd => rfl); (case hg => rfl); (case hr => first | (go_simp; done) | (go_simp; rfl)); intro gb375 hg w18 hbox hb; have n0_ := am_ (blk_below (bu BK371.out) hb); have n1_ := am_ (below_step z31_5 hb); have n2_ := am_ (hbox); have n3_ := am_ (by rw [hg]; exact (below_size z31_5) : w.heap.size ≤ gb375); have n4_ := am_ (by rw [hg]; exact (below_size z31_5) : w.heap.size ≤ gb375); have n5_ := am_ (by rw [hg]; exact Nat.ne_of_lt (blk_lt (bu BK371.out)) : gb371 ≠ gb375); have n6_ := am_ (by rw [hg]; exact Nat.ne_of_gt (blk_lt (bu BK371.out)) : gb375 ≠ gb371); clear BK371 HB; have BK371 := n0_; have HB := n1_; have BK375 := n2_; have GW375 := n3_; have GE375 := n4_; have NB371_375 := n5_; have NB375_371 := n6_; clear n0_ n1_ n2_ n3_ n4_ n5_ n6_; clear hb hbox hg; have hnb19 := NB375_371.out; have hnc19 := NB371_375.out; have hcz20_0 : w18.cell? ⟨gb375, 0, none⟩ = some (.int .i64 0) := (blk_cell BK375.out 0).trans rfl; have hcz20_1 : w18.cell? ⟨gb375, 1, none⟩ = some (.int .i64 0) := (blk_cell BK375.out 1).trans rfl; have hcz20_2 : w18.cell? ⟨gb375, 2, none⟩ = some (.int .i64 0) := (blk_cell BK375.out 2).trans rfl; have hfz20_0 := blk_frozen BK375.out 0; have hfz20_1 := blk_frozen BK375.out 1; have hfz20_2 := blk_frozen BK375.out 2) | ((with_reducible refine gate_callee (f := 78) rfl ?_); refine goesL_ (some 34) rfl rfl Try.func78 (by kernel_rfl) rfl #[.agg #[.int .i64 ((rd_T85 (rd_L7 l0_0 x16_1) x29_2).f0), .int .i64 ((rd_T85 (rd_L7 l0_0 x16_1) x29_2).f1), .int .i64 ((rd_T85 (rd_L7 l0_0 x16_1) x29_2).f2)]] rfl (by (try simp only [List.map_toArray, List.map_cons, List.map_nil]); first | done | rfl | (simp only [List.length_drop, List.length_take]; rfl)) ?_; (with_reducible refine (impl_Do_uses.calls ((rd_T85 (rd_L7 l0_0 x16_1) x29_2).f0) ((rd_T85 (rd_L7 l0_0 x16_1) x29_2).f1) ((rd_T85 (rd_L7 l0_0 x16_1) x29_2).f2) true _ A16.out).mono ?_); rintro e w21 ⟨rfl, hb⟩; refine ⟨_, rfl, ?_⟩; have n0_ := am_ (blk_below (g := gb371) (o := .cells #[.slice (some ad372) l0_0.length c0_0] 35 (0, 0)) z31_7 hb); have n1_ := am_ (blk_below (g := gb375) (o := .cells #[.int .i64 ((rd_T85 (rd_L7 l0_0 x16_1) x29_2).f0), .int .i64 ((rd_T85 (rd_L7 l0_0 x16_1) x29_2).f1), .int .i64 ((rd_T85 (rd_L7 l0_0 x16_1) x29_2).f2)] 85 (0, 0)) z31_8 hb); have n2_ := am_ (below_step z31_6 hb); clear BK371 BK375 HB; have BK371 := n0_; have BK375 := n1_; have HB := n2_; clear n0_ n1_ n2_; (try clear hb); (try clear hb2); (try clear hk); (try clear hi)))
              go_roundg k2
              case measure => have := HK1.out; have := HK2.out; omega
              case rel => exact ⟨(wrap64 (x4_2 + 1)), (wrap64 (x29_2 + 1)), z31_1, z31_1, H', ⟨by have := HK1.out; have := HK2.out; omega⟩, ⟨bu BK371.out⟩, ⟨z31_6⟩⟩
             ·replace c17 := Bool.eq_false_iff.mpr c17
              subst c17
              have H1 : (impl_ProgOk.l1 k2 (wrap64 (x3_1 + ((rd_L7 l0_0 x16_1).length : Int))) x4_2 l0_0 (l0_0.length : Int) x16_1 (rd_L7 l0_0 x16_1) ((rd_L7 l0_0 x16_1).length : Int) (wrap64 (x29_2 + 1))) = some r := by rw [if_neg (show ¬ (false = true) by decide)] at H; exact H
              clear H
              have H := H1
              clear H1
              have H' := am_ H
              clear H
              have p374 : 0 ≤ (x29_2 : Int) := of_decide_eq_true z31_2
              have q374 : x29_2 < ((rd_L7 l0_0 x16_1).length : Int) := of_decide_eq_true z31_2
              obtain ⟨ad374, e374, hx374_0, hx374_1, hx374_2⟩ := at_T85 HR372_0.out x29_2 p374 q374
              cases e374
              replace hx374_0 := (HB.out.cell (World.block_lt_of_cell? w _ hx374_0)).trans hx374_0
              replace hx374_1 := (HB.out.cell (World.block_lt_of_cell? w _ hx374_1)).trans hx374_1
              replace hx374_2 := (HB.out.cell (World.block_lt_of_cell? w _ hx374_2)).trans hx374_2
              replace p374 := eq_true p374
              replace q374 := eq_true q374
              go_wp2_with (first | ((with_reducible refine gate_dst (N := 8) rfl ?_); refine box_event ?hg (N := 8) ?hd (cs := #[.int .i64 0, .int .i64 0, .int .i64 0]) (t := 85) ?hr ?_; (case hd => rfl); (case hg => rfl); (case hr => first | (go_simp; done) | (go_simp; rfl)); intro gb375 hg w22 hbox hb; have n0_ := am_ (blk_below (bu BK371.out) hb); have n1_ := am_ (below_step z31_5 hb); have n2_ := am_ (hbox); have n3_ := am_ (by rw [hg]; exact (below_size z31_5) : w.heap.size ≤ gb375); have n4_ := am_ (by rw [hg]; exact (below_size z31_5) : w.heap.size ≤ gb375); have n5_ := am_ (by rw [hg]; exact Nat.ne_of_lt (blk_lt (bu BK371.out)) : gb371 ≠ gb375); have n6_ := am_ (by rw [hg]; exact Nat.ne_of_gt (blk_lt (bu BK371.out)) : gb375 ≠ gb371); clear BK371 HB; have BK371 := n0_; have HB := n1_; have BK375 := n2_; have GW375 := n3_; have GE375 := n4_; have NB371_375 := n5_; have NB375_371 := n6_; clear n0_ n1_ n2_ n3_ n4_ n5_ n6_; clear hb hbox hg; have hnb23 := NB375_371.out; have hnc23 := NB371_375.out; have hcz24_0 : w22.cell? ⟨gb375, 0, none⟩ = some (.int .i64 0) := (blk_cell BK375.out 0).trans rfl; have hcz24_1 : w22.cell? ⟨gb375, 1, none⟩ = some (.int .i64 0) := (blk_cell BK375.out 1).trans rfl; have hcz24_2 : w22.cell? ⟨gb375, 2, none⟩ = some (.int .i64 0) := (blk_cell BK375.out 2).trans rfl; have hfz24_0 := blk_frozen BK375.out 0; have hfz24_1 := blk_frozen BK375.out 1; have hfz24_2 := blk_frozen BK375.out 2) | ((with_reducible refine gate_callee (f := 78) rfl ?_); refine goesL_ (some 34) rfl rfl Try.func78 (by kernel_rfl) rfl #[.agg #[.int .i64 ((rd_T85 (rd_L7 l0_0 x16_1) x29_2).f0), .int .i64 ((rd_T85 (rd_L7 l0_0 x16_1) x29_2).f1), .int .i64 ((rd_T85 (rd_L7 l0_0 x16_1) x29_2).f2)]] rfl (by (try simp only [List.map_toArray, List.map_cons, List.map_nil]); first | done | rfl | (simp only [List.length_drop, List.length_take]; rfl)) ?_; (with_reducible refine (impl_Do_uses.calls ((rd_T85 (rd_L7 l0_0 x16_1) x29_2).f0) ((rd_T85 (rd_L7 l0_0 x16_1) x29_2).f1) ((rd_T85 (rd_L7 l0_0 x16_1) x29_2).f2) false _ A16.out).mono ?_); rintro e w25 ⟨rfl, hb⟩; refine ⟨_, rfl, ?_⟩; have n0_ := am_ (blk_below (g := gb371) (o := .cells #[.slice (some ad372) l0_0.length c0_0] 35 (0, 0)) z31_7 hb); have n1_ := am_ (blk_below (g := gb375) (o := .cells #[.int .i64 ((rd_T85 (rd_L7 l0_0 x16_1) x29_2).f0), .int .i64 ((rd_T85 (rd_L7 l0_0 x16_1) x29_2).f1), .int .i64 ((rd_T85 (rd_L7 l0_0 x16_1) x29_2).f2)] 85 (0, 0)) z31_8 hb); have n2_ := am_ (below_step z31_6 hb); clear BK371 BK375 HB; have BK371 := n0_; have BK375 := n1_; have HB := n2_; clear n0_ n1_ n2_; (try clear hb); (try clear hb2); (try clear hk); (try clear hi)))
              go_roundg k2
              case measure => have := HK1.out; have := HK2.out; omega
              case rel => exact ⟨(x4_2), (wrap64 (x29_2 + 1)), z31_1, z31_1, H', ⟨by have := HK1.out; have := HK2.out; omega⟩, ⟨bu BK371.out⟩, ⟨z31_6⟩⟩
            ·rw [if_neg c15] at H
             exact absurd H (by simp)
           ·rw [if_neg c14] at H
            exact absurd H (by simp)
          ·rw [if_neg c13] at H
           have c13b0 : decide (x29_2 < ((rd_L7 l0_0 x16_1).length : Int)) = false := decide_eq_false c13
           clear c13
           have H' := am_ H
           clear H
           go_wp2
           go_roundg k2
           case measure => have := HK1.out; have := HK2.out; omega
           case rel => exact ⟨((wrap64 (x3_1 + ((rd_L7 l0_0 x16_1).length : Int)))), (x4_2), (wrap64 (x16_1 + 1)), z31_1, z31_1, z31_1, H', ⟨by have := HK1.out; have := HK2.out; omega⟩, ⟨bu BK371.out⟩, ⟨z31_5⟩⟩
       ·replace c11 := Bool.eq_false_iff.mpr c11
        subst c11
        have H1 : (some false) = some r := by rw [if_neg (show ¬ (false = true) by decide)] at H; exact H
        clear H
        have H := H1
        clear H1
        obtain rfl := Option.some.inj H
        have p372 : 0 ≤ (x16_1 : Int) := of_decide_eq_true z31_2
        have q372 : x16_1 < (l0_0.length : Int) := of_decide_eq_true z31_2
        obtain ⟨ad372, A372_0, c372_0, e372, hx372_0, hl372_0, hi372_0⟩ := at_L7 HR0_0.out x16_1 p372 q372
        cases e372
        replace hx372_0 := (HB.out.cell (World.block_lt_of_cell? w _ hx372_0)).trans hx372_0
        have HR372_0 := am_ hi372_0
        have HC372_0 := am_ hl372_0
        clear hi372_0 hl372_0
        replace p372 := eq_true p372
        replace q372 := eq_true q372
        go_wp2_with (first | ((with_reducible refine gate_callee (f := 77) rfl ?_); refine goesL_ (some 21) rfl rfl Try.func77 (by kernel_rfl) rfl #[.slice A372_0 (rd_L7 l0_0 x16_1).length c372_0] rfl (by (try simp only [List.map_toArray, List.map_cons, List.map_nil]); first | done | rfl | (simp only [List.length_drop, List.length_take]; rfl)) ?_; (with_reducible refine (impl_threadOk.calls k1 _ _ (rd_L7 l0_0 x16_1) false _ ?side1 ?side2 A10.out).mono ?_); (case side1 => repeat (first | exact (Kd.C_below HR372_0.out HB.out) | (with_reducible refine Kd.C_alloc ?_ _) | (with_reducible refine Kd.C_drewN ?_ _) | (with_reducible refine Kd.C_drew ?_))); (case side2 => exact HC372_0.out); rintro e w26 ⟨rfl, hb⟩; refine ⟨_, rfl, ?_⟩; have n0_ := am_ (blk_below (bu BK371.out) hb); have n1_ := am_ (below_step z31_5 hb); clear BK371 HB; have BK371 := n0_; have HB := n1_; clear n0_ n1_; (try clear hb); (try clear hb2); (try clear hk); (try clear hi)))
        go_ret
        exact ⟨z31_3, z31_5⟩
      ·rw [if_neg c9] at H
       exact absurd H (by simp)
     ·rw [if_neg c8] at H
      exact absurd H (by simp)
    ·rw [if_neg c7] at H
     have c7b0 : decide (x16_1 < (l0_0.length : Int)) = false := decide_eq_false c7
     clear c7
     by_cases c27 : x3_1 ≤ 14
     ·rw [if_pos c27] at H
      have c27b0 : decide (x3_1 ≤ 14) = true := decide_eq_true c27
      clear c27
      obtain rfl := Option.some.inj H
      go_wp2
      go_ret
      exact ⟨z31_3, z31_5⟩
     ·rw [if_neg c27] at H
      have c27b0 : decide (x3_1 ≤ 14) = false := decide_eq_false c27
      clear c27
      obtain rfl := Option.some.inj H
      go_wp2
      go_ret
      exact ⟨z31_3, z31_5⟩

end Go.Proofs.Ytefkbmhkhpekjaa.PB

namespace Go.Proofs.Ytefkbmhkhpekjaa.PB
open Go.RowKit Go.Proofs.YtefkbmhkhpekjaaW.PrintWords Go.Proofs.YtefkbmhkhpekjaaW.PrintLast Go.Proofs.YtefkbmhkhpekjaaW.PrintMore
attribute [local go_sem] max2_int min2_int max_two min_two max_three min_three max_four min_four   -- for this text's walks alone
open Go.Proofs.YtefkbmhkhpekjaaMine
set_option linter.unusedVariables false
set_option linter.unusedSimpArgs false

theorem z91_1 {p : Prop} (h : p := by first | rfl | (simp; done) | (simp [*]; done)) : p := h
theorem z91_2 {p : Prop} (h : p := by first | (with_reducible assumption) | assumption) : p := h
theorem z91_3 {p : Prop} (h : p := by repeat (first | (with_reducible first | exact HB.out | apply below_alloc | apply pw_below_drewN | apply below_drew1) | exact HB.out)) : p := h
theorem z91_4 {p : Prop} (h : p := by repeat (first | (with_reducible first | exact HB.out | apply below_alloc | apply pw_below_drewN | apply below_drew1 | refine below_set ?_ GE610.out) | exact HB.out)) : p := h
theorem z91_5 {p : Prop} (h : p := by (with_reducible repeat (first | refine blk_drewN ?_ _ | refine blk_drew ?_ | refine blk_alloc ?_ _)); refine blk_put (cs := #[.int .i64 ((rd_T85 l0 x8_1).f0), .int .i64 ((rd_T85 l0 x8_1).f1), .int .i64 0]) ?_ 2 _ rfl; (with_reducible repeat (first | refine blk_drewN ?_ _ | refine blk_drew ?_ | refine blk_alloc ?_ _)); refine blk_put (cs := #[.int .i64 ((rd_T85 l0 x8_1).f0), .int .i64 0, .int .i64 0]) ?_ 1 _ rfl; (with_reducible repeat (first | refine blk_drewN ?_ _ | refine blk_drew ?_ | refine blk_alloc ?_ _)); refine blk_put (cs := #[.int .i64 0, .int .i64 0, .int .i64 0]) ?_ 0 _ rfl; (with_reducible repeat (first | refine blk_drewN ?_ _ | refine blk_drew ?_ | refine blk_alloc ?_ _)); exact BK610.out) : p := h
/-! ### impl_readsOf: function 91 -/
def impl_readsOf.l0 : Nat → Int → List (S85) → Int → Int → Option (Int)
  | 0, _, _, _, _ => none
  | k + 1, x3, x6, x7, x8 => if x8 < x7 then (if 0 ≤ x8 then (if x8 < (x6.length : Int) then ((impl_Do_reads.f ((rd_T85 x6 x8).f0) ((rd_T85 x6 x8).f1) ((rd_T85 x6 x8).f2)).bind fun t611 => (if t611 = true then (impl_readsOf.l0 k (wrap64 (x3 + 1)) x6 x7 (wrap64 (x8 + 1))) else (impl_readsOf.l0 k x3 x6 x7 (wrap64 (x8 + 1))))) else (none)) else (none)) else (some x3)
def impl_readsOf.f (k : Nat) (l0 : List (S85)) : Option (Int) := impl_readsOf.l0 k 0 l0 (l0.length : Int) 0
set_option maxHeartbeats 8000000 in
set_option maxRecDepth 100000 in
theorem impl_readsOf.calls (k : Nat) (A0 : Option Addr) (c0 : Nat) (l0 : List (S85)) (r : Int) (w : World) (hr0 : Kd.C k85 w A0 l0.length l0) (hc0 : l0.length ≤ c0) (h : impl_readsOf.f k l0 = some r) :
  Calls Try.prog 91 #[.slice A0 l0.length c0] w fun e w' => e = .returned (.int .i64 r) ∧ Below w.heap.size w w' := by
 have hu85 := Try.underlying85
 have HR0 := am_ hr0
 have HC0 := am_ hc0
 clear hr0 hc0
 have HB := am_ (Below.refl w.heap.size w)
 have H : (impl_readsOf.l0 k 0 l0 (l0.length : Int) 0) = some r := h
 clear h
 have H' := am_ H
 clear H
 go_enter Try.func91, Try.ntmps91
 go_wp2
 go_loopg [3, 8] k (fun kq v3 v8 w' => ∃ (x3_1 : Int) (x8_1 : Int), v3 = .int .i64 x3_1 ∧ v8 = .int .i64 x8_1 ∧ Aside0 (impl_readsOf.l0 kq x3_1 l0 (l0.length : Int) x8_1 = some r) ∧ Aside0 (kq ≤ k) ∧ Aside0 (Below w.heap.size w w'))
 case atStart => exact ⟨(0), (0), z91_1, z91_1, H', ⟨Nat.le_refl _⟩, ⟨z91_3⟩⟩
 case round =>
  clear H'
  obtain ⟨x3_1, x8_1, rfl, rfl, HA, HK1, HB⟩ := hrel
  cases gk with
  | zero => exact absurd HA.out (by simp [impl_readsOf.l0])
  | succ k1 =>
   have H := HA.out
   clear HA
   simp only [impl_readsOf.l0] at H
   by_cases c2 : x8_1 < (l0.length : Int)
   ·rw [if_pos c2] at H
    have c2b0 : decide (x8_1 < (l0.length : Int)) = true := decide_eq_true c2
    clear c2
    by_cases c3 : 0 ≤ x8_1
    ·rw [if_pos c3] at H
     have c3b0 : decide (0 ≤ x8_1) = true := decide_eq_true c3
     clear c3
     by_cases c4 : x8_1 < (l0.length : Int)
     ·rw [if_pos c4] at H
      have c4b0 : decide (x8_1 < (l0.length : Int)) = true := decide_eq_true c4
      clear c4
      replace H := Option.bind_eq_some_iff.mp H
      obtain ⟨t611, A50, H⟩ := H
      replace H : (if t611 = true then (impl_readsOf.l0 k1 (wrap64 (x3_1 + 1)) l0 (l0.length : Int) (wrap64 (x8_1 + 1))) else (impl_readsOf.l0 k1 x3_1 l0 (l0.length : Int) (wrap64 (x8_1 + 1)))) = some r := H
      have A5 := am_ A50
      clear A50
      by_cases c6 : t611 = true
      ·subst c6
       have H1 : (impl_readsOf.l0 k1 (wrap64 (x3_1 + 1)) l0 (l0.length : Int) (wrap64 (x8_1 + 1))) = some r := by rw [if_pos rfl] at H; exact H
       clear H
       have H := H1
       clear H1
       have H' := am_ H
       clear H
       have p609 : 0 ≤ (x8_1 : Int) := of_decide_eq_true z91_2
       have q609 : x8_1 < (l0.length : Int) := of_decide_eq_true z91_2
       obtain ⟨ad609, e609, hx609_0, hx609_1, hx609_2⟩ := at_T85 HR0.out x8_1 p609 q609
       cases e609
       replace hx609_0 := (HB.out.cell (World.block_lt_of_cell? w _ hx609_0)).trans hx609_0
       replace hx609_1 := (HB.out.cell (World.block_lt_of_cell? w _ hx609_1)).trans hx609_1
       replace hx609_2 := (HB.out.cell (World.block_lt_of_cell? w _ hx609_2)).trans hx609_2
       replace p609 := eq_true p609
       replace q609 := eq_true q609
       go_wp2_with (first | ((with_reducible refine gate_dst (N := 5) rfl ?_); refine box_event ?hg (N := 5) ?hd (cs := #[.int .i64 0, .int .i64 0, .int .i64 0]) (t := 85) ?hr ?_; (case hd => rfl); (case hg => rfl); (case hr => first | (go_simp; done) | (go_simp; rfl)); intro gb610 hg w7 hbox hb; have n0_ := am_ (below_step z91_3 hb); have n1_ := am_ (hbox); have n2_ := am_ (by rw [hg]; exact (below_size z91_3) : w.heap.size ≤ gb610); have n3_ := am_ (by rw [hg]; exact (below_size z91_3) : w.heap.size ≤ gb610); clear HB; have HB := n0_; have BK610 := n1_; have GW610 := n2_; have GE610 := n3_; clear n0_ n1_ n2_ n3_; clear hb hbox hg; have hcz8_0 : w7.cell? ⟨gb610, 0, none⟩ = some (.int .i64 0) := (blk_cell BK610.out 0).trans rfl; have hcz8_1 : w7.cell? ⟨gb610, 1, none⟩ = some (.int .i64 0) := (blk_cell BK610.out 1).trans rfl; have hcz8_2 : w7.cell? ⟨gb610, 2, none⟩ = some (.int .i64 0) := (blk_cell BK610.out 2).trans rfl; have hfz8_0 := blk_frozen BK610.out 0; have hfz8_1 := blk_frozen BK610.out 1; have hfz8_2 := blk_frozen BK610.out 2) | ((with_reducible refine gate_callee (f := 114) rfl ?_); refine goesL_ (some 13) rfl rfl Try.func114 (by kernel_rfl) rfl #[.agg #[.int .i64 ((rd_T85 l0 x8_1).f0), .int .i64 ((rd_T85 l0 x8_1).f1), .int .i64 ((rd_T85 l0 x8_1).f2)]] rfl (by (try simp only [List.map_toArray, List.map_cons, List.map_nil]); first | done | rfl | (simp only [List.length_drop, List.length_take]; rfl)) ?_; (with_reducible refine (impl_Do_reads.calls ((rd_T85 l0 x8_1).f0) ((rd_T85 l0 x8_1).f1) ((rd_T85 l0 x8_1).f2) true _ A5.out).mono ?_); rintro e w9 ⟨rfl, hb⟩; refine ⟨_, rfl, ?_⟩; have n0_ := am_ (blk_below (g := gb610) (o := .cells #[.int .i64 ((rd_T85 l0 x8_1).f0), .int .i64 ((rd_T85 l0 x8_1).f1), .int .i64 ((rd_T85 l0 x8_1).f2)] 85 (0, 0)) z91_5 hb); have n1_ := am_ (below_step z91_4 hb); clear BK610 HB; have BK610 := n0_; have HB := n1_; clear n0_ n1_; (try clear hb); (try clear hb2); (try clear hk); (try clear hi)))
       go_roundg k1
       case measure => have := HK1.out; omega
       case rel => exact ⟨(wrap64 (x3_1 + 1)), (wrap64 (x8_1 + 1)), z91_1, z91_1, H', ⟨by have := HK1.out; omega⟩, ⟨z91_4⟩⟩
      ·replace c6 := Bool.eq_false_iff.mpr c6
       subst c6
       have H1 : (impl_readsOf.l0 k1 x3_1 l0 (l0.length : Int) (wrap64 (x8_1 + 1))) = some r := by rw [if_neg (show ¬ (false = true) by decide)] at H; exact H
       clear H
       have H := H1
       clear H1
       have H' := am_ H
       clear H
       have p609 : 0 ≤ (x8_1 : Int) := of_decide_eq_true z91_2
       have q609 : x8_1 < (l0.length : Int) := of_decide_eq_true z91_2
       obtain ⟨ad609, e609, hx609_0, hx609_1, hx609_2⟩ := at_T85 HR0.out x8_1 p609 q609
       cases e609
       replace hx609_0 := (HB.out.cell (World.block_lt_of_cell? w _ hx609_0)).trans hx609_0
       replace hx609_1 := (HB.out.cell (World.block_lt_of_cell? w _ hx609_1)).trans hx609_1
       replace hx609_2 := (HB.out.cell (World.block_lt_of_cell? w _ hx609_2)).trans hx609_2
       replace p609 := eq_true p609
       replace q609 := eq_true q609
       go_wp2_with (first | ((with_reducible refine gate_dst (N := 5) rfl ?_); refine box_event ?hg (N := 5) ?hd (cs := #[.int .i64 0, .int .i64 0, .int .i64 0]) (t := 85) ?hr ?_; (case hd => rfl); (case hg => rfl); (case hr => first | (go_simp; done) | (go_simp; rfl)); intro gb610 hg w10 hbox hb; have n0_ := am_ (below_step z91_3 hb); have n1_ := am_ (hbox); have n2_ := am_ (by rw [hg]; exact (below_size z91_3) : w.heap.size ≤ gb610); have n3_ := am_ (by rw [hg]; exact (below_size z91_3) : w.heap.size ≤ gb610); clear HB; have HB := n0_; have BK610 := n1_; have GW610 := n2_; have GE610 := n3_; clear n0_ n1_ n2_ n3_; clear hb hbox hg; have hcz11_0 : w10.cell? ⟨gb610, 0, none⟩ = some (.int .i64 0) := (blk_cell BK610.out 0).trans rfl; have hcz11_1 : w10.cell? ⟨gb610, 1, none⟩ = some (.int .i64 0) := (blk_cell BK610.out 1).trans rfl; have hcz11_2 : w10.cell? ⟨gb610, 2, none⟩ = some (.int .i64 0) := (blk_cell BK610.out 2).trans rfl; have hfz11_0 := blk_frozen BK610.out 0; have hfz11_1 := blk_frozen BK610.out 1; have hfz11_2 := blk_frozen BK610.out 2) | ((with_reducible refine gate_callee (f := 114) rfl ?_); refine goesL_ (some 13) rfl rfl Try.func114 (by kernel_rfl) rfl #[.agg #[.int .i64 ((rd_T85 l0 x8_1).f0), .int .i64 ((rd_T85 l0 x8_1).f1), .int .i64 ((rd_T85 l0 x8_1).f2)]] rfl (by (try simp only [List.map_toArray, List.map_cons, List.map_nil]); first | done | rfl | (simp only [List.length_drop, List.length_take]; rfl)) ?_; (with_reducible refine (impl_Do_reads.calls ((rd_T85 l0 x8_1).f0) ((rd_T85 l0 x8_1).f1) ((rd_T85 l0 x8_1).f2) false _ A5.out).mono ?_); rintro e w12 ⟨rfl, hb⟩; refine ⟨_, rfl, ?_⟩; have n0_ := am_ (blk_below (g := gb610) (o := .cells #[.int .i64 ((rd_T85 l0 x8_1).f0), .int .i64 ((rd_T85 l0 x8_1).f1), .int .i64 ((rd_T85 l0 x8_1).f2)] 85 (0, 0)) z91_5 hb); have n1_ := am_ (below_step z91_4 hb); clear BK610 HB; have BK610 := n0_; have HB := n1_; clear n0_ n1_; (try clear hb); (try clear hb2); (try clear hk); (try clear hi)))
       go_roundg k1
       case measure => have := HK1.out; omega
       case rel => exact ⟨(x3_1), (wrap64 (x8_1 + 1)), z91_1, z91_1, H', ⟨by have := HK1.out; omega⟩, ⟨z91_4⟩⟩
     ·rw [if_neg c4] at H
      exact absurd H (by simp)
    ·rw [if_neg c3] at H
     exact absurd H (by simp)
   ·rw [if_neg c2] at H
    have c2b0 : decide (x8_1 < (l0.length : Int)) = false := decide_eq_false c2
    clear c2
    obtain rfl := Option.some.inj H
    go_wp2
    go_ret
    exact ⟨by first | rfl | (simp [errW_none, errW_some] <;> rfl) | (simp [*, errW_none, errW_some] <;> rfl), z91_3⟩

end Go.Proofs.Ytefkbmhkhpekjaa.PB

namespace Go.Proofs.Ytefkbmhkhpekjaa.PB
open Go.RowKit Go.Proofs.YtefkbmhkhpekjaaW.PrintWords Go.Proofs.YtefkbmhkhpekjaaW.PrintLast Go.Proofs.YtefkbmhkhpekjaaW.PrintMore
attribute [local go_sem] max2_int min2_int max_two min_two max_three min_three max_four min_four   -- for this text's walks alone
open Go.Proofs.YtefkbmhkhpekjaaMine
set_option linter.unusedVariables false
set_option linter.unusedSimpArgs false

theorem z40_1 {p : Prop} (h : p := by first | rfl | (simp; done) | (simp [*]; done)) : p := h
theorem z40_2 {p : Prop} (h : p := by first | rfl | (simp [errW_none, errW_some] <;> rfl) | (simp [*, errW_none, errW_some] <;> rfl)) : p := h
theorem z40_3 {p : Prop} (h : p := by repeat (first | (with_reducible first | exact HB.out | apply below_alloc | apply pw_below_drewN | apply below_drew1) | exact HB.out)) : p := h
theorem z40_4 {p : Prop} (h : p := by repeat (first | (with_reducible first | exact HB.out | apply below_alloc | apply pw_below_drewN | apply below_drew1 | refine below_set ?_ GE612.out) | exact HB.out)) : p := h
/-! ### impl_ProgReads: function 40 -/
def impl_ProgReads.l0 : Nat → Int → List (List (S85)) → Int → Int → Option (Int)
  | 0, _, _, _, _ => none
  | k + 1, x3, x10, x11, x12 => if x12 < x11 then (if 0 ≤ x12 then (if x12 < (x10.length : Int) then ((impl_readsOf.f k (rd_L7 x10 x12)).bind fun t615 => (impl_ProgReads.l0 k (wrap64 (x3 + t615)) x10 x11 (wrap64 (x12 + 1)))) else (none)) else (none)) else (some x3)
def impl_ProgReads.f (k : Nat) (l0_0 : List (List (S85))) : Option (Int) := (impl_ProgOk.f k l0_0).bind fun t613 => (if t613 = true then (impl_ProgReads.l0 k 0 l0_0 (l0_0.length : Int) 0) else (some (-1)))
set_option maxHeartbeats 8000000 in
set_option maxRecDepth 100000 in
theorem impl_ProgReads.calls (k : Nat) (A0_0 : Option Addr) (c0_0 : Nat) (l0_0 : List (List (S85))) (r : Int) (w : World) (hr0_0 : Kd.C (Kd.slice 85 k85) w A0_0 l0_0.length l0_0) (hc0_0 : l0_0.length ≤ c0_0) (h : impl_ProgReads.f k l0_0 = some r) :
  Calls Try.prog 40 #[.agg #[.slice A0_0 l0_0.length c0_0]] w fun e w' => e = .returned (.int .i64 r) ∧ Below w.heap.size w w' := by
 have hu35 := Try.underlying35
 have HR0_0 := am_ hr0_0
 have HC0_0 := am_ hc0_0
 clear hr0_0 hc0_0
 have HB := am_ (Below.refl w.heap.size w)
 have H : ((impl_ProgOk.f k l0_0).bind fun t613 => (if t613 = true then (impl_ProgReads.l0 k 0 l0_0 (l0_0.length : Int) 0) else (some (-1)))) = some r := h
 clear h
 replace H := Option.bind_eq_some_iff.mp H
 obtain ⟨t613, A20, H⟩ := H
 replace H : (if t613 = true then (impl_ProgReads.l0 k 0 l0_0 (l0_0.length : Int) 0) else (some (-1))) = some r := H
 have A2 := am_ A20
 clear A20
 by_cases c3 : t613 = true
 ·subst c3
  have H1 : (impl_ProgReads.l0 k 0 l0_0 (l0_0.length : Int) 0) = some r := by rw [if_pos rfl] at H; exact H
  clear H
  have H := H1
  clear H1
  have H' := am_ H
  clear H
  go_enter Try.func40, Try.ntmps40
  go_wp2_with (first | ((with_reducible refine gate_dst (N := 1) rfl ?_); refine box_event ?hg (N := 1) ?hd (cs := #[.slice A0_0 l0_0.length c0_0]) (t := 35) ?hr ?_; (case hd => rfl); (case hg => rfl); (case hr => first | (go_simp; done) | (go_simp; rfl)); intro gb612 hg w4 hbox hb; have n0_ := am_ (below_step z40_3 hb); have n1_ := am_ (hbox); have n2_ := am_ (by rw [hg]; exact (below_size z40_3) : w.heap.size ≤ gb612); have n3_ := am_ (by rw [hg]; exact (below_size z40_3) : w.heap.size ≤ gb612); clear HB; have HB := n0_; have BK612 := n1_; have GW612 := n2_; have GE612 := n3_; clear n0_ n1_ n2_ n3_; clear hb hbox hg; have hcz5_0 : w4.cell? ⟨gb612, 0, none⟩ = some (.slice A0_0 l0_0.length c0_0) := (blk_cell BK612.out 0).trans rfl; have hfz5_0 := blk_frozen BK612.out 0) | ((with_reducible refine gate_callee (f := 31) rfl ?_); refine goesL_ (some 7) rfl rfl Try.func31 (by kernel_rfl) rfl #[.agg #[.slice A0_0 l0_0.length c0_0]] rfl (by (try simp only [List.map_toArray, List.map_cons, List.map_nil]); first | done | rfl | (simp only [List.length_drop, List.length_take]; rfl)) ?_; (with_reducible refine (impl_ProgOk.calls k _ _ l0_0 true _ ?side1 ?side2 A2.out).mono ?_); (case side1 => repeat (first | exact (Kd.C_below HR0_0.out HB.out) | (with_reducible refine Kd.C_alloc ?_ _) | (with_reducible refine Kd.C_drewN ?_ _) | (with_reducible refine Kd.C_drew ?_))); (case side2 => exact HC0_0.out); rintro e w6 ⟨rfl, hb⟩; refine ⟨_, rfl, ?_⟩; have n0_ := am_ (blk_below (bu BK612.out) hb); have n1_ := am_ (below_step z40_4 hb); clear BK612 HB; have BK612 := n0_; have HB := n1_; clear n0_ n1_; (try clear hb); (try clear hb2); (try clear hk); (try clear hi); have hcz7_0 : w6.cell? ⟨gb612, 0, none⟩ = some (.slice A0_0 l0_0.length c0_0) := (blk_cell BK612.out 0).trans rfl; have hfz7_0 := blk_frozen BK612.out 0))
  go_loopg [3, 12] k (fun kq v3 v12 w' => ∃ (x3_1 : Int) (x12_1 : Int), v3 = .int .i64 x3_1 ∧ v12 = .int .i64 x12_1 ∧ Aside0 (impl_ProgReads.l0 kq x3_1 l0_0 (l0_0.length : Int) x12_1 = some r) ∧ Aside0 (kq ≤ k) ∧ Aside0 (w'.heap[gb612]? = some (.cells #[(.slice A0_0 l0_0.length c0_0)] 35 (0, 0))) ∧ Aside0 (Below w.heap.size w w'))
  case atStart => exact ⟨(0), (0), z40_1, z40_1, H', ⟨Nat.le_refl _⟩, ⟨bu BK612.out⟩, ⟨z40_4⟩⟩
  case round =>
   clear H'
   obtain ⟨x3_1, x12_1, rfl, rfl, HA, HK1, BK612, HB⟩ := hrel
   cases gk with
   | zero => exact absurd HA.out (by simp [impl_ProgReads.l0])
   | succ k1 =>
    have H := HA.out
    clear HA
    simp only [impl_ProgReads.l0] at H
    by_cases c8 : x12_1 < (l0_0.length : Int)
    ·rw [if_pos c8] at H
     have c8b0 : decide (x12_1 < (l0_0.length : Int)) = true := decide_eq_true c8
     clear c8
     by_cases c9 : 0 ≤ x12_1
     ·rw [if_pos c9] at H
      have c9b0 : decide (0 ≤ x12_1) = true := decide_eq_true c9
      clear c9
      by_cases c10 : x12_1 < (l0_0.length : Int)
      ·rw [if_pos c10] at H
       have c10b0 : decide (x12_1 < (l0_0.length : Int)) = true := decide_eq_true c10
       clear c10
       replace H := Option.bind_eq_some_iff.mp H
       obtain ⟨t615, A110, H⟩ := H
       replace H : (impl_ProgReads.l0 k1 (wrap64 (x3_1 + t615)) l0_0 (l0_0.length : Int) (wrap64 (x12_1 + 1))) = some r := H
       have A11 := am_ A110
       clear A110
       have H' := am_ H
       clear H
       have p614 : 0 ≤ (x12_1 : Int) := of_decide_eq_true (by first | (with_reducible assumption) | assumption)
       have q614 : x12_1 < (l0_0.length : Int) := of_decide_eq_true (by first | (with_reducible assumption) | assumption)
       obtain ⟨ad614, A614_0, c614_0, e614, hx614_0, hl614_0, hi614_0⟩ := at_L7 HR0_0.out x12_1 p614 q614
       cases e614
       replace hx614_0 := (HB.out.cell (World.block_lt_of_cell? w _ hx614_0)).trans hx614_0
       have HR614_0 := am_ hi614_0
       have HC614_0 := am_ hl614_0
       clear hi614_0 hl614_0
       replace p614 := eq_true p614
       replace q614 := eq_true q614
       go_wp2_with (first | ((with_reducible refine gate_callee (f := 91) rfl ?_); refine goesL_ (some 18) rfl rfl Try.func91 (by kernel_rfl) rfl #[.slice A614_0 (rd_L7 l0_0 x12_1).length c614_0] rfl (by (try simp only [List.map_toArray, List.map_cons, List.map_nil]); first | done | rfl | (simp only [List.length_drop, List.length_take]; rfl)) ?_; (with_reducible refine (impl_readsOf.calls k1 _ _ (rd_L7 l0_0 x12_1) t615 _ ?side1 ?side2 A11.out).mono ?_); (case side1 => repeat (first | exact (Kd.C_below HR614_0.out HB.out) | (with_reducible refine Kd.C_alloc ?_ _) | (with_reducible refine Kd.C_drewN ?_ _) | (with_reducible refine Kd.C_drew ?_))); (case side2 => exact HC614_0.out); rintro e w12 ⟨rfl, hb⟩; refine ⟨_, rfl, ?_⟩; have n0_ := am_ (blk_below (bu BK612.out) hb); have n1_ := am_ (below_step z40_4 hb); clear BK612 HB; have BK612 := n0_; have HB := n1_; clear n0_ n1_; (try clear hb); (try clear hb2); (try clear hk); (try clear hi)))
       go_roundg k1
       case measure => have := HK1.out; omega
       case rel => exact ⟨(wrap64 (x3_1 + t615)), (wrap64 (x12_1 + 1)), z40_1, z40_1, H', ⟨by have := HK1.out; omega⟩, ⟨bu BK612.out⟩, ⟨z40_4⟩⟩
      ·rw [if_neg c10] at H
       exact absurd H (by simp)
     ·rw [if_neg c9] at H
      exact absurd H (by simp)
    ·rw [if_neg c8] at H
     have c8b0 : decide (x12_1 < (l0_0.length : Int)) = false := decide_eq_false c8
     clear c8
     obtain rfl := Option.some.inj H
     go_wp2
     go_ret
     exact ⟨z40_2, z40_4⟩
 ·replace c3 := Bool.eq_false_iff.mpr c3
  subst c3
  have H1 : (some (-1)) = some r := by rw [if_neg (show ¬ (false = true) by decide)] at H; exact H
  clear H
  have H := H1
  clear H1
  obtain rfl := Option.some.inj H
  go_enter Try.func40, Try.ntmps40
  go_wp2_with (first | ((with_reducible refine gate_dst (N := 1) rfl ?_); refine box_event ?hg (N := 1) ?hd (cs := #[.slice A0_0 l0_0.length c0_0]) (t := 35) ?hr ?_; (case hd => rfl); (case hg => rfl); (case hr => first | (go_simp; done) | (go_simp; rfl)); intro gb612 hg w13 hbox hb; have n0_ := am_ (below_step z40_3 hb); have n1_ := am_ (hbox); have n2_ := am_ (by rw [hg]; exact (below_size z40_3) : w.heap.size ≤ gb612); have n3_ := am_ (by rw [hg]; exact (below_size z40_3) : w.heap.size ≤ gb612); clear HB; have HB := n0_; have BK612 := n1_; have GW612 := n2_; have GE612 := n3_; clear n0_ n1_ n2_ n3_; clear hb hbox hg; have hcz14_0 : w13.cell? ⟨gb612, 0, none⟩ = some (.slice A0_0 l0_0.length c0_0) := (blk_cell BK612.out 0).trans rfl; have hfz14_0 := blk_frozen BK612.out 0) | ((with_reducible refine gate_callee (f := 31) rfl ?_); refine goesL_ (some 7) rfl rfl Try.func31 (by kernel_rfl) rfl #[.agg #[.slice A0_0 l0_0.length c0_0]] rfl (by (try simp only [List.map_toArray, List.map_cons, List.map_nil]); first | done | rfl | (simp only [List.length_drop, List.length_take]; rfl)) ?_; (with_reducible refine (impl_ProgOk.calls k _ _ l0_0 false _ ?side1 ?side2 A2.out).mono ?_); (case side1 => repeat (first | exact (Kd.C_below HR0_0.out HB.out) | (with_reducible refine Kd.C_alloc ?_ _) | (with_reducible refine Kd.C_drewN ?_ _) | (with_reducible refine Kd.C_drew ?_))); (case side2 => exact HC0_0.out); rintro e w15 ⟨rfl, hb⟩; refine ⟨_, rfl, ?_⟩; have n0_ := am_ (blk_below (bu BK612.out) hb); have n1_ := am_ (below_step z40_4 hb); clear BK612 HB; have BK612 := n0_; have HB := n1_; clear n0_ n1_; (try clear hb); (try clear hb2); (try clear hk); (try clear hi)))
  go_ret
  exact ⟨z40_2, z40_4⟩

end Go.Proofs.Ytefkbmhkhpekjaa.PB

namespace Go.Proofs.Ytefkbmhkhpekjaa.PB
open Go.RowKit Go.Proofs.YtefkbmhkhpekjaaW.PrintWords Go.Proofs.YtefkbmhkhpekjaaW.PrintLast Go.Proofs.YtefkbmhkhpekjaaW.PrintMore
attribute [local go_sem] max2_int min2_int max_two min_two max_three min_three max_four min_four   -- for this text's walks alone
open Go.Proofs.YtefkbmhkhpekjaaMine
set_option linter.unusedVariables false
set_option linter.unusedSimpArgs false

/-! ### impl_valsOk: function 107 -/
/-- A value. -/
def valB (n : Int) : Bool := decide (0 ≤ n) && decide (n ≤ 3)
theorem valsOk_cl (n : Int) (w : World) :
    Calls Try.prog 130 #[.int .i64 n] w fun e w' => e = .returned (.bool (!valB n)) ∧ Below w.heap.size w w' := by
  have hin : impl_in.f n 0 3 = some (valB n) := by
    unfold impl_in.f valB
    by_cases h : n ≥ 0
    · rw [if_pos h, decide_eq_true (show 0 ≤ n from h), Bool.true_and]
    · rw [if_neg h, decide_eq_false (show ¬ 0 ≤ n from h), Bool.false_and]
  go_enter Try.func130, Try.ntmps130
  go_wp2_with (go_at_call 66; refine park ?_)
  refine ⟨?_⟩
  refine (impl_in.calls n 0 3 (valB n) _ hin).mono ?_
  rintro e w1 ⟨rfl, hd⟩
  have hb := hd.below
  go_wp2_with fail
  go_ret
  exact ⟨rfl, hb⟩
set_option maxRecDepth 100000 in
set_option maxHeartbeats 800000 in
theorem valsOk_index (A : Option Addr) (c : Nat) (l : List Int) (w : World) (hr : Kd.C (Kd.int .i64) w A l.length l) (hc : l.length ≤ c) :
    Calls Try.prog 138 #[.slice A l.length c, .func (.func 130) #[] #[]] w fun e w' => ∃ r : Int, e = .returned (.int .i64 r) ∧ decide (0 ≤ r) = !(l.all valB) ∧ Below w.heap.size w w' := by
  have HR := am_ hr
  have hl : l.length ≤ 9223372036854775807 := hr.2.1
  clear hr
  go_enter Try.func138, Try.ntmps138
  go_wp2_with fail
  go_loopg [8] l.length (fun kq v8 w' => ∃ (dn rs : List Int), v8 = .int .i64 dn.length ∧ rs.length = kq ∧ Aside0 (dn ++ rs = l) ∧ Aside0 (dn.all valB = true) ∧ Aside0 (Below w.heap.size w w'))
  case atStart => exact ⟨[], l, rfl, rfl, ⟨rfl⟩, ⟨rfl⟩, ⟨Below.refl _ _⟩⟩
  case round =>
    obtain ⟨dn, rs, rfl, hk, HL, HD, HB⟩ := hrel
    have hle : dn.length + rs.length = l.length := by have := congrArg List.length HL.out; simpa using this
    cases rs with
    | nil =>
      have hge : ¬ (dn.length : Int) < (l.length : Int) := by simp only [List.length_nil] at hle; omega
      go_wp2_with fail
      go_ret
      refine ⟨-1, rfl, ?_, HB.out⟩
      have e := HL.out
      rw [List.append_nil] at e
      rw [← e, HD.out]
      rfl
    | cons d rs1 =>
      have hlt : (dn.length : Int) < (l.length : Int) := by simp only [List.length_cons] at hle; omega
      obtain ⟨ad, rfl, hx⟩ := Kd.at_int (Kd.C_below HR.out HB.out) (dn.length : Int) (by omega) hlt
      have hd : rd l (dn.length : Int) = d := by
        unfold rd
        rw [← HL.out, Int.toNat_natCast]
        simp
      rw [hd, Int.toNat_natCast] at hx
      go_wp2_with (go_at_call 130; refine park ?_)
      clear hx
      refine ⟨?_⟩
      refine (valsOk_cl d _).mono ?_
      rintro e w1 ⟨rfl, hb⟩
      have HB1 := am_ (below_then HB.out HB.out.size hb)
      clear hb
      cases hv : valB d with
      | false =>
        go_wp2_with fail
        go_ret
        refine ⟨(dn.length : Int), rfl, ?_, HB1.out⟩
        rw [← HL.out]
        simp [hv]
      | true =>
        go_wp2_with fail
        go_roundg rs1.length
        case measure => simp only [List.length_cons] at hk; omega
        case rel => exact ⟨dn ++ [d], rs1, by simp, rfl, ⟨by rw [← HL.out]; simp⟩, ⟨by simp [hv]; simpa using HD.out⟩, HB1⟩
def impl_valsOk.f (l0 : List Int) : Option Bool := some (l0.all valB)
set_option maxRecDepth 100000 in
set_option maxHeartbeats 800000 in
theorem impl_valsOk.calls (A0 : Option Addr) (c0 : Nat) (l0 : List Int) (r : Bool) (w : World) (hr0 : Kd.C (Kd.int .i64) w A0 l0.length l0) (hc0 : l0.length ≤ c0) (h : impl_valsOk.f l0 = some r) :
  Calls Try.prog 107 #[.slice A0 l0.length c0] w fun e w' => e = .returned (.bool r) ∧ Below w.heap.size w w' := by
 have h := Option.some.inj h
 have HR := am_ hr0
 clear hr0
 go_enter Try.func107, Try.ntmps107
 go_wp2_with (go_at_call 129; refine park ?_)
 refine ⟨?_⟩
 have key : Calls Try.prog 129 #[.slice A0 l0.length c0, .func (.func 130) #[] #[]] w fun e w' => e = .returned (.bool (!(l0.all valB))) ∧ Below w.heap.size w w' := by
  go_enter Try.func129, Try.ntmps129
  go_wp2_with (go_at_call 138; refine park ?_)
  refine ⟨?_⟩
  refine (valsOk_index A0 c0 l0 w HR.out hc0).mono ?_
  rintro e w1 ⟨r', rfl, hr', hb⟩
  have HB := am_ hb
  clear hb
  go_wp2_with fail
  go_ret
  exact ⟨by rw [h]; rfl, HB.out⟩
 refine key.mono ?_
 rintro e w1 ⟨rfl, hb⟩
 have HB := am_ hb
 clear hb
 go_wp2_with fail
 go_ret
 exact ⟨by rw [← h]; rfl, HB.out⟩


end Go.Proofs.Ytefkbmhkhpekjaa.PB

namespace Go.Proofs.Ytefkbmhkhpekjaa.PB
open Go.RowKit Go.Proofs.YtefkbmhkhpekjaaW.PrintWords Go.Proofs.YtefkbmhkhpekjaaW.PrintLast Go.Proofs.YtefkbmhkhpekjaaW.PrintMore
attribute [local go_sem] max2_int min2_int max_two min_two max_three min_three max_four min_four   -- for this text's walks alone
open Go.Proofs.YtefkbmhkhpekjaaMine
set_option linter.unusedVariables false
set_option linter.unusedSimpArgs false

/-! ### impl_SeenOk: function 63 -/
def impl_SeenOk.T1 : Bool × List (List Nat × List Nat) := (true, [([], []), ([0], [0]), ([1, 1], [1]), ([2], [2]), ([3, 2], [2, 3]), ([4, 2], [2, 4]), ([2], [2]), ([6, 2, 2], [2, 6]), ([5, 7, 2], [2, 5, 7]), ([2, 8], [2, 8]), ([9, 7], [9]), ([10], [10]), ([11, 10], [10, 11]), ([12, 10], [10, 12]), ([13, 10], [10, 13]), ([10, 14], [10, 14]), ([15, 10], [15]), ([16], [16]), ([17, 16], [16, 17]), ([18, 16, 16], [16, 18]), ([16, 19], [16, 19]), ([20, 19], [20]), ([21], [21]), ([22, 21], [21, 22]), ([23, 21, 21], [21, 23]), ([21, 24], [21, 24]), ([25, 24, 0, 1, 2, 3, 4, 5, 6, 7, 8, 9, 10, 11, 12, 13, 14, 15, 16, 17, 18, 19, 20, 21, 22, 23, 24, 25], [25])])
def impl_SeenOk.B1 : List Nat := [0, 1, 3, 7, 15, 31, 7, 71, 255, 511, 1023, 2047, 4095, 8191, 16383, 32767, 65535, 131071, 262143, 524287, 1048575, 2097151, 4194303, 8388607, 16777215, 33554431, 67108863]
theorem impl_SeenOk.tab1 : rtab .any (opsOf Try.f63 1) = impl_SeenOk.T1 := by kernel_rfl
theorem impl_SeenOk.bits1 : waitsOk impl_SeenOk.T1.2 impl_SeenOk.B1 = true := by kernel_rfl
def impl_SeenOk.f (k : Nat) (l0_0 : List (List S85)) (l1_0 : List Int) (l1_1 : List Int) : Option Bool := (impl_ProgOk.f k l0_0).bind fun a => (if a = true then ((impl_ProgReads.f k l0_0).bind fun c => (if (l1_0.length : Int) = c then (if (l1_1.length : Int) = 3 then ((impl_valsOk.f l1_0).bind fun d => (if d = true then ((impl_valsOk.f l1_1).bind fun e => (some e)) else (some false))) else (some false)) else (some false))) else (some false))
theorem impl_SeenOk.ways {k : Nat} {p : List (List S85)} {sr sl : List Int} {r : Bool} (h : impl_SeenOk.f k p sr sl = some r) : ∃ (b0 b1 b2 b3 : Bool) (m : Int), impl_ProgOk.f k p = some b0 ∧ (b0 = true → impl_ProgReads.f k p = some m ∧ b1 = ((sr.length : Int) == m)) ∧ (b0 = false → b1 = false) ∧ (b1 = true → b2 = ((sl.length : Int) == 3)) ∧ (b1 = false → b2 = false) ∧ (b2 = true → impl_valsOk.f sr = some b3) ∧ (b2 = false → b3 = false) ∧ (b3 = true → impl_valsOk.f sl = some r) ∧ (b3 = false → r = false) := by
  unfold impl_SeenOk.f at h
  obtain ⟨a, ea, h⟩ := Option.bind_eq_some_iff.mp h
  cases a with
  | false =>
    rw [if_neg (by simp)] at h
    obtain rfl := Option.some.inj h
    exact ⟨false, false, false, false, 0, ea, by simp, fun _ => rfl, by simp, fun _ => rfl, by simp, fun _ => rfl, by simp, fun _ => rfl⟩
  | true =>
    rw [if_pos rfl] at h
    obtain ⟨c, ec, h⟩ := Option.bind_eq_some_iff.mp h
    by_cases h1 : (sr.length : Int) = c
    rotate_left
    · rw [if_neg h1] at h
      obtain rfl := Option.some.inj h
      exact ⟨true, false, false, false, c, ea, fun _ => ⟨ec, (beq_eq_false_iff_ne.mpr h1).symm⟩, by simp, by simp, fun _ => rfl, by simp, fun _ => rfl, by simp, fun _ => rfl⟩
    rw [if_pos h1] at h
    by_cases h2 : (sl.length : Int) = 3
    rotate_left
    · rw [if_neg h2] at h
      obtain rfl := Option.some.inj h
      exact ⟨true, true, false, false, c, ea, fun _ => ⟨ec, (beq_iff_eq.mpr h1).symm⟩, by simp, fun _ => (beq_eq_false_iff_ne.mpr h2).symm, by simp, by simp, fun _ => rfl, by simp, fun _ => rfl⟩
    rw [if_pos h2] at h
    obtain ⟨d, ed, h⟩ := Option.bind_eq_some_iff.mp h
    cases d with
    | false =>
      rw [if_neg (by simp)] at h
      obtain rfl := Option.some.inj h
      exact ⟨true, true, true, false, c, ea, fun _ => ⟨ec, (beq_iff_eq.mpr h1).symm⟩, by simp, fun _ => (beq_iff_eq.mpr h2).symm, by simp, fun _ => ed, by simp, by simp, fun _ => rfl⟩
    | true =>
      rw [if_pos rfl] at h
      obtain ⟨e, ee, h⟩ := Option.bind_eq_some_iff.mp h
      obtain rfl := Option.some.inj h
      exact ⟨true, true, true, true, c, ea, fun _ => ⟨ec, (beq_iff_eq.mpr h1).symm⟩, by simp, fun _ => (beq_iff_eq.mpr h2).symm, by simp, fun _ => ed, by simp, fun _ => ee, by simp⟩
set_option maxRecDepth 100000 in
set_option maxHeartbeats 8000000 in
theorem impl_SeenOk.calls (k : Nat) (A0_0 : Option Addr) (c0_0 : Nat) (l0_0 : List (List S85)) (A1_0 : Option Addr) (c1_0 : Nat) (l1_0 : List Int) (A1_1 : Option Addr) (c1_1 : Nat) (l1_1 : List Int) (r : Bool) (w : World) (hr0_0 : Kd.C (Kd.slice 85 k85) w A0_0 l0_0.length l0_0) (hc0_0 : l0_0.length ≤ c0_0) (hr1_0 : Kd.C (Kd.int .i64) w A1_0 l1_0.length l1_0) (hc1_0 : l1_0.length ≤ c1_0) (hr1_1 : Kd.C (Kd.int .i64) w A1_1 l1_1.length l1_1) (hc1_1 : l1_1.length ≤ c1_1) (h : impl_SeenOk.f k l0_0 l1_0 l1_1 = some r) :
  Calls Try.prog 63 #[.agg #[.slice A0_0 l0_0.length c0_0], .agg #[.slice A1_0 l1_0.length c1_0, .slice A1_1 l1_1.length c1_1]] w fun e w' => e = .returned (.bool r) ∧ Below w.heap.size w w' := by
 obtain ⟨b0, b1, b2, b3, m, h0, h1, h1', h2, h2', h3, h3', h4, h4'⟩ := impl_SeenOk.ways h
 have C0 := am_ hr0_0
 have L0 := am_ hc0_0
 have C1 := am_ hr1_0
 have L1 := am_ hc1_0
 have C2 := am_ hr1_1
 have L2 := am_ hc1_1
 have G0 := am_ h0
 have G1 := am_ h1
 have G1f := am_ h1'
 have G2 := am_ h2
 have G2f := am_ h2'
 have G3 := am_ h3
 have G3f := am_ h3'
 have G4 := am_ h4
 have G4f := am_ h4'
 clear hr0_0 hc0_0 hr1_0 hc1_0 hr1_1 hc1_1 h0 h1 h1' h2 h2' h3 h3' h4 h4' h
 have hx0 := blk_alloc (heap_alloc_new w (Obj.cells #[Value.slice A0_0 l0_0.length c0_0] 35)) (Obj.cells #[Value.slice A1_0 l1_0.length c1_0, Value.slice A1_1 l1_1.length c1_1] 24)
 have hx1 := heap_alloc_new (w.alloc (Obj.cells #[Value.slice A0_0 l0_0.length c0_0] 35)) (Obj.cells #[Value.slice A1_0 l1_0.length c1_0, Value.slice A1_1 l1_1.length c1_1] 24)
 rw [World.size_alloc] at hx1
 have hB := below_alloc (below_alloc (Below.refl w.heap.size w) (Obj.cells #[Value.slice A0_0 l0_0.length c0_0] 35)) (Obj.cells #[Value.slice A1_0 l1_0.length c1_0, Value.slice A1_1 l1_1.length c1_1] 24)
 have BP := am_ (blk_drew hx0)
 have BS := am_ (blk_drew hx1)
 have HB := am_ (below_drew hB)
 clear hx0 hx1 hB
 go_enter Try.func63, Try.ntmps63
 go_wp2_with fail
 refine start_ (n := 27) (S := fun w' => w'.cell? ⟨w.heap.size, 0, none⟩ = some (.slice A0_0 l0_0.length c0_0) ∧ w'.cell? ⟨w.heap.size + 1, 0, none⟩ = some (.slice A1_0 l1_0.length c1_0) ∧ w'.cell? ⟨w.heap.size + 1, 1, none⟩ = some (.slice A1_1 l1_1.length c1_1)) (ds := []) #[false, false, false, false, false, false, false, false, false, false, false, false, false, false, false, false, false, false, false, false, false, false, false, false, false, false, false] (by kernel_rfl) rfl rfl ⟨(blk_cell BP.out 0).trans rfl, (blk_cell BS.out 0).trans rfl, (blk_cell BS.out 1).trans rfl⟩ (fun hHeld => ?_)
 refine with_tabW impl_SeenOk.tab1 impl_SeenOk.bits1 (fun HT_ HW_ => ?_)
 generalize ((w.alloc (Obj.cells #[Value.slice A0_0 l0_0.length c0_0] 35)).alloc (Obj.cells #[Value.slice A1_0 l1_0.length c1_0, Value.slice A1_1 l1_1.length c1_1] 24)).drew = X0 at *
 refine take_ (i := 0) (N := some 5) (v := ?_) (a' := ?_) #[true, false, false, false, false, false, false, false, false, false, false, false, false, false, false, false, false, false, false, false, false, false, false, false, false, false, false] rfl rfl (take_ofW HT_.out HW_.out (by kernel_rfl)) (fun _ _ _ h => h) (Or.inl ⟨by rfl, ?_⟩) hHeld ?_ ?_
 rotate_left
 ·intro w' s0
  have s1 := s0.1
  go_simp
  with_reducible rfl
 rotate_left
 ·simp only [Act.put, List.setIfInBounds_toArray, List.set_cons_zero, List.set_cons_succ, i64_w, i32_w]
  rfl
 refine one_ (i := 1) (N := some 6) #[true, true, false, false, false, false, false, false, false, false, false, false, false, false, false, false, false, false, false, false, false, false, false, false, false, false, false] rfl rfl (one_of HT_.out (by kernel_rfl)) (by decide) (fun K hK => ?_)
 refine goes_ Try.func31 (by kernel_rfl) rfl #[.agg #[.slice A0_0 l0_0.length c0_0]] (by rfl) rfl rfl (by (try simp only [List.map_toArray, List.map_cons, List.map_nil]); first | done | rfl) ?_
 with_reducible refine (impl_ProgOk.calls k _ _ l0_0 b0 _ (Kd.C_below C0.out HB.out) L0.out G0.out).mono ?_
 rintro e Y0 ⟨rfl, hb⟩
 refine ⟨_, rfl, ?_⟩
 have BPY0 := am_ (blk_below BP.out hb)
 have BSY0 := am_ (blk_below BS.out hb)
 have HBY0 := am_ (below_then HB.out HB.out.size hb)
 clear hb BP BS HB
 refine hK.out _ _ ⟨(blk_cell BPY0.out 0).trans rfl, (blk_cell BSY0.out 0).trans rfl, (blk_cell BSY0.out 1).trans rfl⟩ (fun hHeld => ?_)
 clear hK K
 refine norm_ (a' := ?_) ?_ ?_
 rotate_left
 ·show Act.put _ (some 6) _ = _
  simp only [Act.put, List.setIfInBounds_toArray, List.set_cons_zero, List.set_cons_succ, i64_w, i32_w]
  rfl
 refine pure_ (i := 2) (N := some 7) (v := ?_) (a' := ?_) #[true, true, true, false, false, false, false, false, false, false, false, false, false, false, false, false, false, false, false, false, false, false, false, false, false, false, false] rfl rfl (any_of HT_.out (by kernel_rfl)) (fun _ _ _ h => h) (Or.inl ⟨by rfl, ?_⟩) ?_ ?_
 rotate_left
 ·intro w'
  go_simp
  with_reducible rfl
 rotate_left
 ·simp only [Act.put, List.setIfInBounds_toArray, List.set_cons_zero, List.set_cons_succ, i64_w, i32_w]
  rfl
 refine join_ (σ := Value × Value × Value × Value × Value × Value) 17 #[true, true, true, true, true, true, true, true, true, true, false, false, false, false, false, false, false, false, false, false, false, false, false, false, false, false, false] (fun s_ => [(8, s_.1), (9, s_.2.1), (10, s_.2.2.1), (11, s_.2.2.2.1), (12, s_.2.2.2.2.1), (13, s_.2.2.2.2.2), (14, .bool b1)]) (fun s_ w' => (w'.cell? ⟨w.heap.size, 0, none⟩ = some (.slice A0_0 l0_0.length c0_0) ∧ w'.cell? ⟨w.heap.size + 1, 0, none⟩ = some (.slice A1_0 l1_0.length c1_0) ∧ w'.cell? ⟨w.heap.size + 1, 1, none⟩ = some (.slice A1_1 l1_1.length c1_1)) ∧ w'.heap[w.heap.size]? = some (Obj.cells #[Value.slice A0_0 l0_0.length c0_0] 35) ∧ w'.heap[w.heap.size + 1]? = some (Obj.cells #[Value.slice A1_0 l1_0.length c1_0, Value.slice A1_1 l1_1.length c1_1] 24) ∧ Below w.heap.size w w') ?_ ?_
 rotate_left
 ·intro hCont
  rcases b0 with _ | _
  ·have e2 := G1f.out rfl
   subst e2
   refine pure_ (i := 3) (N := some 8) (v := undef) (a' := ?_) #[true, true, true, true, false, false, false, false, false, false, false, false, false, false, false, false, false, false, false, false, false, false, false, false, false, false, false] rfl rfl (any_of HT_.out (by kernel_rfl)) (fun _ _ _ h => h) (Or.inr ⟨by rfl, rfl⟩) ?_ ?_
   rotate_left
   ·simp only [Act.put, List.setIfInBounds_toArray, List.set_cons_zero, List.set_cons_succ, i64_w, i32_w]
    rfl
   refine pure_ (i := 4) (N := some 9) (v := undef) (a' := ?_) #[true, true, true, true, true, false, false, false, false, false, false, false, false, false, false, false, false, false, false, false, false, false, false, false, false, false, false] rfl rfl (any_of HT_.out (by kernel_rfl)) (fun _ _ _ h => h) (Or.inr ⟨by rfl, rfl⟩) ?_ ?_
   rotate_left
   ·simp only [Act.put, List.setIfInBounds_toArray, List.set_cons_zero, List.set_cons_succ, i64_w, i32_w]
    rfl
   refine pure_ (i := 5) (N := some 10) (v := undef) (a' := ?_) #[true, true, true, true, true, true, false, false, false, false, false, false, false, false, false, false, false, false, false, false, false, false, false, false, false, false, false] rfl rfl (any_of HT_.out (by kernel_rfl)) (fun _ _ _ h => h) (Or.inr ⟨by rfl, rfl⟩) ?_ ?_
   rotate_left
   ·simp only [Act.put, List.setIfInBounds_toArray, List.set_cons_zero, List.set_cons_succ, i64_w, i32_w]
    rfl
   refine pure_ (i := 6) (N := some 11) (v := undef) (a' := ?_) #[true, true, true, true, true, true, true, false, false, false, false, false, false, false, false, false, false, false, false, false, false, false, false, false, false, false, false] rfl rfl (any_of HT_.out (by kernel_rfl)) (fun _ _ _ h => h) (Or.inr ⟨by rfl, rfl⟩) ?_ ?_
   rotate_left
   ·simp only [Act.put, List.setIfInBounds_toArray, List.set_cons_zero, List.set_cons_succ, i64_w, i32_w]
    rfl
   refine pure_ (i := 7) (N := some 12) (v := undef) (a' := ?_) #[true, true, true, true, true, true, true, true, false, false, false, false, false, false, false, false, false, false, false, false, false, false, false, false, false, false, false] rfl rfl (any_of HT_.out (by kernel_rfl)) (fun _ _ _ h => h) (Or.inr ⟨by rfl, rfl⟩) ?_ ?_
   rotate_left
   ·simp only [Act.put, List.setIfInBounds_toArray, List.set_cons_zero, List.set_cons_succ, i64_w, i32_w]
    rfl
   refine pure_ (i := 8) (N := some 13) (v := undef) (a' := ?_) #[true, true, true, true, true, true, true, true, true, false, false, false, false, false, false, false, false, false, false, false, false, false, false, false, false, false, false] rfl rfl (any_of HT_.out (by kernel_rfl)) (fun _ _ _ h => h) (Or.inr ⟨by rfl, rfl⟩) ?_ ?_
   rotate_left
   ·simp only [Act.put, List.setIfInBounds_toArray, List.set_cons_zero, List.set_cons_succ, i64_w, i32_w]
    rfl
   refine pure_ (i := 9) (N := some 14) (v := ?_) (a' := ?_) #[true, true, true, true, true, true, true, true, true, true, false, false, false, false, false, false, false, false, false, false, false, false, false, false, false, false, false] rfl rfl (any_of HT_.out (by kernel_rfl)) (fun _ _ _ h => h) (Or.inl ⟨by rfl, ?_⟩) ?_ ?_
   rotate_left
   ·intro w'
    go_simp
    with_reducible rfl
   rotate_left
   ·simp only [Act.put, List.setIfInBounds_toArray, List.set_cons_zero, List.set_cons_succ, i64_w, i32_w]
    rfl
   have zz := hCont (undef, undef, undef, undef, undef, undef) _ ⟨⟨(blk_cell BPY0.out 0).trans rfl, (blk_cell BSY0.out 0).trans rfl, (blk_cell BSY0.out 1).trans rfl⟩, BPY0.out, BSY0.out, HBY0.out⟩
   simp only [putAll, Act.put, List.setIfInBounds_toArray, List.set_cons_zero, List.set_cons_succ] at zz
   exact zz
  ·obtain ⟨e1, e2⟩ := G1.out rfl
   subst e2
   have E1 := am_ e1
   clear e1
   refine pure_ (i := 3) (N := some 8) (v := ?_) (a' := ?_) #[true, true, true, true, false, false, false, false, false, false, false, false, false, false, false, false, false, false, false, false, false, false, false, false, false, false, false] rfl rfl (any_of HT_.out (by kernel_rfl)) (fun _ _ _ h => h) (Or.inl ⟨by rfl, ?_⟩) ?_ ?_
   rotate_left
   ·intro w'
    go_simp
    with_reducible rfl
   rotate_left
   ·simp only [Act.put, List.setIfInBounds_toArray, List.set_cons_zero, List.set_cons_succ, i64_w, i32_w]
    rfl
   refine take_ (i := 4) (N := some 9) (v := ?_) (a' := ?_) #[true, true, true, true, true, false, false, false, false, false, false, false, false, false, false, false, false, false, false, false, false, false, false, false, false, false, false] rfl rfl (take_ofW HT_.out HW_.out (by kernel_rfl)) (fun _ _ _ h => h) (Or.inl ⟨by rfl, ?_⟩) hHeld ?_ ?_
   rotate_left
   ·intro w' s0
    have s1 := s0.2.1
    go_simp
    with_reducible rfl
   rotate_left
   ·simp only [Act.put, List.setIfInBounds_toArray, List.set_cons_zero, List.set_cons_succ, i64_w, i32_w]
    rfl
   refine pure_ (i := 5) (N := some 10) (v := ?_) (a' := ?_) #[true, true, true, true, true, true, false, false, false, false, false, false, false, false, false, false, false, false, false, false, false, false, false, false, false, false, false] rfl rfl (any_of HT_.out (by kernel_rfl)) (fun _ _ _ h => h) (Or.inl ⟨by rfl, ?_⟩) ?_ ?_
   rotate_left
   ·intro w'
    go_simp
    with_reducible rfl
   rotate_left
   ·simp only [Act.put, List.setIfInBounds_toArray, List.set_cons_zero, List.set_cons_succ, i64_w, i32_w]
    rfl
   refine take_ (i := 6) (N := some 11) (v := ?_) (a' := ?_) #[true, true, true, true, true, true, true, false, false, false, false, false, false, false, false, false, false, false, false, false, false, false, false, false, false, false, false] rfl rfl (take_ofW HT_.out HW_.out (by kernel_rfl)) (fun _ _ _ h => h) (Or.inl ⟨by rfl, ?_⟩) hHeld ?_ ?_
   rotate_left
   ·intro w' s0
    have s1 := s0.1
    go_simp
    with_reducible rfl
   rotate_left
   ·simp only [Act.put, List.setIfInBounds_toArray, List.set_cons_zero, List.set_cons_succ, i64_w, i32_w]
    rfl
   refine one_ (i := 7) (N := some 12) #[true, true, true, true, true, true, true, true, false, false, false, false, false, false, false, false, false, false, false, false, false, false, false, false, false, false, false] rfl rfl (one_of HT_.out (by kernel_rfl)) (by decide) (fun K hK => ?_)
   refine goes_ Try.func40 (by kernel_rfl) rfl #[.agg #[.slice A0_0 l0_0.length c0_0]] (by rfl) rfl rfl (by (try simp only [List.map_toArray, List.map_cons, List.map_nil]); first | done | rfl) ?_
   with_reducible refine (impl_ProgReads.calls k _ _ l0_0 m _ (Kd.C_below C0.out HBY0.out) L0.out E1.out).mono ?_
   rintro e Y1 ⟨rfl, hb⟩
   refine ⟨_, rfl, ?_⟩
   have BPY1 := am_ (blk_below BPY0.out hb)
   have BSY1 := am_ (blk_below BSY0.out hb)
   have HBY1 := am_ (below_then HBY0.out HBY0.out.size hb)
   clear hb BPY0 BSY0 HBY0
   refine hK.out _ _ ⟨(blk_cell BPY1.out 0).trans rfl, (blk_cell BSY1.out 0).trans rfl, (blk_cell BSY1.out 1).trans rfl⟩ (fun hHeld => ?_)
   clear hK K
   refine norm_ (a' := ?_) ?_ ?_
   rotate_left
   ·show Act.put _ (some 12) _ = _
    simp only [Act.put, List.setIfInBounds_toArray, List.set_cons_zero, List.set_cons_succ, i64_w, i32_w]
    rfl
   refine pure_ (i := 8) (N := some 13) (v := ?_) (a' := ?_) #[true, true, true, true, true, true, true, true, true, false, false, false, false, false, false, false, false, false, false, false, false, false, false, false, false, false, false] rfl rfl (any_of HT_.out (by kernel_rfl)) (fun _ _ _ h => h) (Or.inl ⟨by rfl, ?_⟩) ?_ ?_
   rotate_left
   ·intro w'
    go_simp
    with_reducible rfl
   rotate_left
   ·simp only [Act.put, List.setIfInBounds_toArray, List.set_cons_zero, List.set_cons_succ, i64_w, i32_w]
    rfl
   refine pure_ (i := 9) (N := some 14) (v := ?_) (a' := ?_) #[true, true, true, true, true, true, true, true, true, true, false, false, false, false, false, false, false, false, false, false, false, false, false, false, false, false, false] rfl rfl (any_of HT_.out (by kernel_rfl)) (fun _ _ _ h => h) (Or.inl ⟨by rfl, ?_⟩) ?_ ?_
   rotate_left
   ·intro w'
    go_simp
    with_reducible rfl
   rotate_left
   ·simp only [Act.put, List.setIfInBounds_toArray, List.set_cons_zero, List.set_cons_succ, i64_w, i32_w]
    rfl
   have zz := hCont (.pointer (some ⟨w.heap.size + 1, 0, none⟩), .slice A1_0 l1_0.length c1_0, .int .i64 l1_0.length, .agg #[.slice A0_0 l0_0.length c0_0], .int .i64 m, .bool ((l1_0.length : Int) == m)) _ ⟨⟨(blk_cell BPY1.out 0).trans rfl, (blk_cell BSY1.out 0).trans rfl, (blk_cell BSY1.out 1).trans rfl⟩, BPY1.out, BSY1.out, HBY1.out⟩
   simp only [putAll, Act.put, List.setIfInBounds_toArray, List.set_cons_zero, List.set_cons_succ] at zz
   exact zz
 rintro ⟨z0, z1, z2, z3, z4, z5⟩ Z1 ⟨hHeld, hp, hs, hb⟩
 clear BPY0 BSY0 HBY0
 have BPJ1 := am_ hp
 have BSJ1 := am_ hs
 have HBJ1 := am_ hb
 clear hp hs hb
 refine norm_ (a' := ?_) ?_ ?_
 rotate_left
 ·simp only [putAll, Act.put, List.setIfInBounds_toArray, List.set_cons_zero, List.set_cons_succ, i64_w, i32_w]
  rfl
 refine pure_ (i := 10) (N := some 15) (v := ?_) (a' := ?_) #[true, true, true, true, true, true, true, true, true, true, true, false, false, false, false, false, false, false, false, false, false, false, false, false, false, false, false] rfl rfl (any_of HT_.out (by kernel_rfl)) (fun _ _ _ h => h) (Or.inl ⟨by rfl, ?_⟩) ?_ ?_
 rotate_left
 ·intro w'
  go_simp
  with_reducible rfl
 rotate_left
 ·simp only [Act.put, List.setIfInBounds_toArray, List.set_cons_zero, List.set_cons_succ, i64_w, i32_w]
  rfl
 refine join_ (σ := Value × Value × Value × Value) 11 #[true, true, true, true, true, true, true, true, true, true, true, true, true, true, true, true, false, false, false, false, false, false, false, false, false, false, false] (fun s_ => [(16, s_.1), (17, s_.2.1), (18, s_.2.2.1), (19, s_.2.2.2), (20, .bool b2)]) (fun s_ w' => (w'.cell? ⟨w.heap.size, 0, none⟩ = some (.slice A0_0 l0_0.length c0_0) ∧ w'.cell? ⟨w.heap.size + 1, 0, none⟩ = some (.slice A1_0 l1_0.length c1_0) ∧ w'.cell? ⟨w.heap.size + 1, 1, none⟩ = some (.slice A1_1 l1_1.length c1_1)) ∧ w'.heap[w.heap.size]? = some (Obj.cells #[Value.slice A0_0 l0_0.length c0_0] 35) ∧ w'.heap[w.heap.size + 1]? = some (Obj.cells #[Value.slice A1_0 l1_0.length c1_0, Value.slice A1_1 l1_1.length c1_1] 24) ∧ Below w.heap.size w w') ?_ ?_
 rotate_left
 ·intro hCont
  rcases b1 with _ | _
  ·have e2 := G2f.out rfl
   subst e2
   refine pure_ (i := 11) (N := some 16) (v := undef) (a' := ?_) #[true, true, true, true, true, true, true, true, true, true, true, true, false, false, false, false, false, false, false, false, false, false, false, false, false, false, false] rfl rfl (any_of HT_.out (by kernel_rfl)) (fun _ _ _ h => h) (Or.inr ⟨by rfl, rfl⟩) ?_ ?_
   rotate_left
   ·simp only [Act.put, List.setIfInBounds_toArray, List.set_cons_zero, List.set_cons_succ, i64_w, i32_w]
    rfl
   refine pure_ (i := 12) (N := some 17) (v := undef) (a' := ?_) #[true, true, true, true, true, true, true, true, true, true, true, true, true, false, false, false, false, false, false, false, false, false, false, false, false, false, false] rfl rfl (any_of HT_.out (by kernel_rfl)) (fun _ _ _ h => h) (Or.inr ⟨by rfl, rfl⟩) ?_ ?_
   rotate_left
   ·simp only [Act.put, List.setIfInBounds_toArray, List.set_cons_zero, List.set_cons_succ, i64_w, i32_w]
    rfl
   refine pure_ (i := 13) (N := some 18) (v := undef) (a' := ?_) #[true, true, true, true, true, true, true, true, true, true, true, true, true, true, false, false, false, false, false, false, false, false, false, false, false, false, false] rfl rfl (any_of HT_.out (by kernel_rfl)) (fun _ _ _ h => h) (Or.inr ⟨by rfl, rfl⟩) ?_ ?_
   rotate_left
   ·simp only [Act.put, List.setIfInBounds_toArray, List.set_cons_zero, List.set_cons_succ, i64_w, i32_w]
    rfl
   refine pure_ (i := 14) (N := some 19) (v := undef) (a' := ?_) #[true, true, true, true, true, true, true, true, true, true, true, true, true, true, true, false, false, false, false, false, false, false, false, false, false, false, false] rfl rfl (any_of HT_.out (by kernel_rfl)) (fun _ _ _ h => h) (Or.inr ⟨by rfl, rfl⟩) ?_ ?_
   rotate_left
   ·simp only [Act.put, List.setIfInBounds_toArray, List.set_cons_zero, List.set_cons_succ, i64_w, i32_w]
    rfl
   refine pure_ (i := 15) (N := some 20) (v := ?_) (a' := ?_) #[true, true, true, true, true, true, true, true, true, true, true, true, true, true, true, true, false, false, false, false, false, false, false, false, false, false, false] rfl rfl (any_of HT_.out (by kernel_rfl)) (fun _ _ _ h => h) (Or.inl ⟨by rfl, ?_⟩) ?_ ?_
   rotate_left
   ·intro w'
    go_simp
    with_reducible rfl
   rotate_left
   ·simp only [Act.put, List.setIfInBounds_toArray, List.set_cons_zero, List.set_cons_succ, i64_w, i32_w]
    rfl
   have zz := hCont (undef, undef, undef, undef) _ ⟨⟨(blk_cell BPJ1.out 0).trans rfl, (blk_cell BSJ1.out 0).trans rfl, (blk_cell BSJ1.out 1).trans rfl⟩, BPJ1.out, BSJ1.out, HBJ1.out⟩
   simp only [putAll, Act.put, List.setIfInBounds_toArray, List.set_cons_zero, List.set_cons_succ] at zz
   exact zz
  ·have e2 := G2.out rfl
   subst e2
   refine pure_ (i := 11) (N := some 16) (v := ?_) (a' := ?_) #[true, true, true, true, true, true, true, true, true, true, true, true, false, false, false, false, false, false, false, false, false, false, false, false, false, false, false] rfl rfl (any_of HT_.out (by kernel_rfl)) (fun _ _ _ h => h) (Or.inl ⟨by rfl, ?_⟩) ?_ ?_
   rotate_left
   ·intro w'
    go_simp
    with_reducible rfl
   rotate_left
   ·simp only [Act.put, List.setIfInBounds_toArray, List.set_cons_zero, List.set_cons_succ, i64_w, i32_w]
    rfl
   refine take_ (i := 12) (N := some 17) (v := ?_) (a' := ?_) #[true, true, true, true, true, true, true, true, true, true, true, true, true, false, false, false, false, false, false, false, false, false, false, false, false, false, false] rfl rfl (take_ofW HT_.out HW_.out (by kernel_rfl)) (fun _ _ _ h => h) (Or.inl ⟨by rfl, ?_⟩) hHeld ?_ ?_
   rotate_left
   ·intro w' s0
    have s1 := s0.2.2
    go_simp
    with_reducible rfl
   rotate_left
   ·simp only [Act.put, List.setIfInBounds_toArray, List.set_cons_zero, List.set_cons_succ, i64_w, i32_w]
    rfl
   refine pure_ (i := 13) (N := some 18) (v := ?_) (a' := ?_) #[true, true, true, true, true, true, true, true, true, true, true, true, true, true, false, false, false, false, false, false, false, false, false, false, false, false, false] rfl rfl (any_of HT_.out (by kernel_rfl)) (fun _ _ _ h => h) (Or.inl ⟨by rfl, ?_⟩) ?_ ?_
   rotate_left
   ·intro w'
    go_simp
    with_reducible rfl
   rotate_left
   ·simp only [Act.put, List.setIfInBounds_toArray, List.set_cons_zero, List.set_cons_succ, i64_w, i32_w]
    rfl
   refine pure_ (i := 14) (N := some 19) (v := ?_) (a' := ?_) #[true, true, true, true, true, true, true, true, true, true, true, true, true, true, true, false, false, false, false, false, false, false, false, false, false, false, false] rfl rfl (any_of HT_.out (by kernel_rfl)) (fun _ _ _ h => h) (Or.inl ⟨by rfl, ?_⟩) ?_ ?_
   rotate_left
   ·intro w'
    go_simp
    with_reducible rfl
   rotate_left
   ·simp only [Act.put, List.setIfInBounds_toArray, List.set_cons_zero, List.set_cons_succ, i64_w, i32_w]
    rfl
   refine pure_ (i := 15) (N := some 20) (v := ?_) (a' := ?_) #[true, true, true, true, true, true, true, true, true, true, true, true, true, true, true, true, false, false, false, false, false, false, false, false, false, false, false] rfl rfl (any_of HT_.out (by kernel_rfl)) (fun _ _ _ h => h) (Or.inl ⟨by rfl, ?_⟩) ?_ ?_
   rotate_left
   ·intro w'
    go_simp
    with_reducible rfl
   rotate_left
   ·simp only [Act.put, List.setIfInBounds_toArray, List.set_cons_zero, List.set_cons_succ, i64_w, i32_w]
    rfl
   have zz := hCont (.pointer (some ⟨w.heap.size + 1, 1, none⟩), .slice A1_1 l1_1.length c1_1, .int .i64 l1_1.length, .bool ((l1_1.length : Int) == 3)) _ ⟨⟨(blk_cell BPJ1.out 0).trans rfl, (blk_cell BSJ1.out 0).trans rfl, (blk_cell BSJ1.out 1).trans rfl⟩, BPJ1.out, BSJ1.out, HBJ1.out⟩
   simp only [putAll, Act.put, List.setIfInBounds_toArray, List.set_cons_zero, List.set_cons_succ] at zz
   exact zz
 rintro ⟨z0, z1, z2, z3⟩ Z2 ⟨hHeld, hp, hs, hb⟩
 clear BPJ1 BSJ1 HBJ1
 have BPJ2 := am_ hp
 have BSJ2 := am_ hs
 have HBJ2 := am_ hb
 clear hp hs hb
 refine norm_ (a' := ?_) ?_ ?_
 rotate_left
 ·simp only [putAll, Act.put, List.setIfInBounds_toArray, List.set_cons_zero, List.set_cons_succ, i64_w, i32_w]
  rfl
 refine pure_ (i := 16) (N := some 21) (v := ?_) (a' := ?_) #[true, true, true, true, true, true, true, true, true, true, true, true, true, true, true, true, true, false, false, false, false, false, false, false, false, false, false] rfl rfl (any_of HT_.out (by kernel_rfl)) (fun _ _ _ h => h) (Or.inl ⟨by rfl, ?_⟩) ?_ ?_
 rotate_left
 ·intro w'
  go_simp
  with_reducible rfl
 rotate_left
 ·simp only [Act.put, List.setIfInBounds_toArray, List.set_cons_zero, List.set_cons_succ, i64_w, i32_w]
  rfl
 refine join_ (σ := Value × Value × Value) 6 #[true, true, true, true, true, true, true, true, true, true, true, true, true, true, true, true, true, true, true, true, true, false, false, false, false, false, false] (fun s_ => [(22, s_.1), (23, s_.2.1), (24, s_.2.2), (25, .bool b3)]) (fun s_ w' => (w'.cell? ⟨w.heap.size, 0, none⟩ = some (.slice A0_0 l0_0.length c0_0) ∧ w'.cell? ⟨w.heap.size + 1, 0, none⟩ = some (.slice A1_0 l1_0.length c1_0) ∧ w'.cell? ⟨w.heap.size + 1, 1, none⟩ = some (.slice A1_1 l1_1.length c1_1)) ∧ w'.heap[w.heap.size]? = some (Obj.cells #[Value.slice A0_0 l0_0.length c0_0] 35) ∧ w'.heap[w.heap.size + 1]? = some (Obj.cells #[Value.slice A1_0 l1_0.length c1_0, Value.slice A1_1 l1_1.length c1_1] 24) ∧ Below w.heap.size w w') ?_ ?_
 rotate_left
 ·intro hCont
  rcases b2 with _ | _
  ·have e2 := G3f.out rfl
   subst e2
   refine pure_ (i := 17) (N := some 22) (v := undef) (a' := ?_) #[true, true, true, true, true, true, true, true, true, true, true, true, true, true, true, true, true, true, false, false, false, false, false, false, false, false, false] rfl rfl (any_of HT_.out (by kernel_rfl)) (fun _ _ _ h => h) (Or.inr ⟨by rfl, rfl⟩) ?_ ?_
   rotate_left
   ·simp only [Act.put, List.setIfInBounds_toArray, List.set_cons_zero, List.set_cons_succ, i64_w, i32_w]
    rfl
   refine pure_ (i := 18) (N := some 23) (v := undef) (a' := ?_) #[true, true, true, true, true, true, true, true, true, true, true, true, true, true, true, true, true, true, true, false, false, false, false, false, false, false, false] rfl rfl (any_of HT_.out (by kernel_rfl)) (fun _ _ _ h => h) (Or.inr ⟨by rfl, rfl⟩) ?_ ?_
   rotate_left
   ·simp only [Act.put, List.setIfInBounds_toArray, List.set_cons_zero, List.set_cons_succ, i64_w, i32_w]
    rfl
   refine pure_ (i := 19) (N := some 24) (v := undef) (a' := ?_) #[true, true, true, true, true, true, true, true, true, true, true, true, true, true, true, true, true, true, true, true, false, false, false, false, false, false, false] rfl rfl (any_of HT_.out (by kernel_rfl)) (fun _ _ _ h => h) (Or.inr ⟨by rfl, rfl⟩) ?_ ?_
   rotate_left
   ·simp only [Act.put, List.setIfInBounds_toArray, List.set_cons_zero, List.set_cons_succ, i64_w, i32_w]
    rfl
   refine pure_ (i := 20) (N := some 25) (v := ?_) (a' := ?_) #[true, true, true, true, true, true, true, true, true, true, true, true, true, true, true, true, true, true, true, true, true, false, false, false, false, false, false] rfl rfl (any_of HT_.out (by kernel_rfl)) (fun _ _ _ h => h) (Or.inl ⟨by rfl, ?_⟩) ?_ ?_
   rotate_left
   ·intro w'
    go_simp
    with_reducible rfl
   rotate_left
   ·simp only [Act.put, List.setIfInBounds_toArray, List.set_cons_zero, List.set_cons_succ, i64_w, i32_w]
    rfl
   have zz := hCont (undef, undef, undef) _ ⟨⟨(blk_cell BPJ2.out 0).trans rfl, (blk_cell BSJ2.out 0).trans rfl, (blk_cell BSJ2.out 1).trans rfl⟩, BPJ2.out, BSJ2.out, HBJ2.out⟩
   simp only [putAll, Act.put, List.setIfInBounds_toArray, List.set_cons_zero, List.set_cons_succ] at zz
   exact zz
  ·have E1 := am_ (G3.out rfl)
   refine pure_ (i := 17) (N := some 22) (v := ?_) (a' := ?_) #[true, true, true, true, true, true, true, true, true, true, true, true, true, true, true, true, true, true, false, false, false, false, false, false, false, false, false] rfl rfl (any_of HT_.out (by kernel_rfl)) (fun _ _ _ h => h) (Or.inl ⟨by rfl, ?_⟩) ?_ ?_
   rotate_left
   ·intro w'
    go_simp
    with_reducible rfl
   rotate_left
   ·simp only [Act.put, List.setIfInBounds_toArray, List.set_cons_zero, List.set_cons_succ, i64_w, i32_w]
    rfl
   refine take_ (i := 18) (N := some 23) (v := ?_) (a' := ?_) #[true, true, true, true, true, true, true, true, true, true, true, true, true, true, true, true, true, true, true, false, false, false, false, false, false, false, false] rfl rfl (take_ofW HT_.out HW_.out (by kernel_rfl)) (fun _ _ _ h => h) (Or.inl ⟨by rfl, ?_⟩) hHeld ?_ ?_
   rotate_left
   ·intro w' s0
    have s1 := s0.2.1
    go_simp
    with_reducible rfl
   rotate_left
   ·simp only [Act.put, List.setIfInBounds_toArray, List.set_cons_zero, List.set_cons_succ, i64_w, i32_w]
    rfl
   refine one_ (i := 19) (N := some 24) #[true, true, true, true, true, true, true, true, true, true, true, true, true, true, true, true, true, true, true, true, false, false, false, false, false, false, false] rfl rfl (one_of HT_.out (by kernel_rfl)) (by decide) (fun K hK => ?_)
   refine goes_ Try.func107 (by kernel_rfl) rfl #[.slice A1_0 l1_0.length c1_0] (by rfl) rfl rfl (by (try simp only [List.map_toArray, List.map_cons, List.map_nil]); first | done | rfl) ?_
   with_reducible refine (impl_valsOk.calls _ _ l1_0 b3 _ (Kd.C_below C1.out HBJ2.out) L1.out E1.out).mono ?_
   rintro e Y3 ⟨rfl, hb⟩
   refine ⟨_, rfl, ?_⟩
   have BPY3 := am_ (blk_below BPJ2.out hb)
   have BSY3 := am_ (blk_below BSJ2.out hb)
   have HBY3 := am_ (below_then HBJ2.out HBJ2.out.size hb)
   clear hb BPJ2 BSJ2 HBJ2
   refine hK.out _ _ ⟨(blk_cell BPY3.out 0).trans rfl, (blk_cell BSY3.out 0).trans rfl, (blk_cell BSY3.out 1).trans rfl⟩ (fun hHeld => ?_)
   clear hK K
   refine norm_ (a' := ?_) ?_ ?_
   rotate_left
   ·show Act.put _ (some 24) _ = _
    simp only [Act.put, List.setIfInBounds_toArray, List.set_cons_zero, List.set_cons_succ, i64_w, i32_w]
    rfl
   refine pure_ (i := 20) (N := some 25) (v := ?_) (a' := ?_) #[true, true, true, true, true, true, true, true, true, true, true, true, true, true, true, true, true, true, true, true, true, false, false, false, false, false, false] rfl rfl (any_of HT_.out (by kernel_rfl)) (fun _ _ _ h => h) (Or.inl ⟨by rfl, ?_⟩) ?_ ?_
   rotate_left
   ·intro w'
    go_simp
    with_reducible rfl
   rotate_left
   ·simp only [Act.put, List.setIfInBounds_toArray, List.set_cons_zero, List.set_cons_succ, i64_w, i32_w]
    rfl
   have zz := hCont (.pointer (some ⟨w.heap.size + 1, 0, none⟩), .slice A1_0 l1_0.length c1_0, .bool b3) _ ⟨⟨(blk_cell BPY3.out 0).trans rfl, (blk_cell BSY3.out 0).trans rfl, (blk_cell BSY3.out 1).trans rfl⟩, BPY3.out, BSY3.out, HBY3.out⟩
   simp only [putAll, Act.put, List.setIfInBounds_toArray, List.set_cons_zero, List.set_cons_succ] at zz
   exact zz
 rintro ⟨z0, z1, z2⟩ Z3 ⟨hHeld, hp, hs, hb⟩
 clear BPJ2 BSJ2 HBJ2
 have BPJ3 := am_ hp
 have BSJ3 := am_ hs
 have HBJ3 := am_ hb
 clear hp hs hb
 refine norm_ (a' := ?_) ?_ ?_
 rotate_left
 ·simp only [putAll, Act.put, List.setIfInBounds_toArray, List.set_cons_zero, List.set_cons_succ, i64_w, i32_w]
  rfl
 refine pure_ (i := 21) (N := some 26) (v := ?_) (a' := ?_) #[true, true, true, true, true, true, true, true, true, true, true, true, true, true, true, true, true, true, true, true, true, true, false, false, false, false, false] rfl rfl (any_of HT_.out (by kernel_rfl)) (fun _ _ _ h => h) (Or.inl ⟨by rfl, ?_⟩) ?_ ?_
 rotate_left
 ·intro w'
  go_simp
  with_reducible rfl
 rotate_left
 ·simp only [Act.put, List.setIfInBounds_toArray, List.set_cons_zero, List.set_cons_succ, i64_w, i32_w]
  rfl
 refine join_ (σ := Value × Value × Value) 1 #[true, true, true, true, true, true, true, true, true, true, true, true, true, true, true, true, true, true, true, true, true, true, true, true, true, true, false] (fun s_ => [(27, s_.1), (28, s_.2.1), (29, s_.2.2), (30, .bool r)]) (fun s_ w' => (w'.cell? ⟨w.heap.size, 0, none⟩ = some (.slice A0_0 l0_0.length c0_0) ∧ w'.cell? ⟨w.heap.size + 1, 0, none⟩ = some (.slice A1_0 l1_0.length c1_0) ∧ w'.cell? ⟨w.heap.size + 1, 1, none⟩ = some (.slice A1_1 l1_1.length c1_1)) ∧ w'.heap[w.heap.size]? = some (Obj.cells #[Value.slice A0_0 l0_0.length c0_0] 35) ∧ w'.heap[w.heap.size + 1]? = some (Obj.cells #[Value.slice A1_0 l1_0.length c1_0, Value.slice A1_1 l1_1.length c1_1] 24) ∧ Below w.heap.size w w') ?_ ?_
 rotate_left
 ·intro hCont
  rcases b3 with _ | _
  ·have e2 := G4f.out rfl
   subst e2
   refine pure_ (i := 22) (N := some 27) (v := undef) (a' := ?_) #[true, true, true, true, true, true, true, true, true, true, true, true, true, true, true, true, true, true, true, true, true, true, true, false, false, false, false] rfl rfl (any_of HT_.out (by kernel_rfl)) (fun _ _ _ h => h) (Or.inr ⟨by rfl, rfl⟩) ?_ ?_
   rotate_left
   ·simp only [Act.put, List.setIfInBounds_toArray, List.set_cons_zero, List.set_cons_succ, i64_w, i32_w]
    rfl
   refine pure_ (i := 23) (N := some 28) (v := undef) (a' := ?_) #[true, true, true, true, true, true, true, true, true, true, true, true, true, true, true, true, true, true, true, true, true, true, true, true, false, false, false] rfl rfl (any_of HT_.out (by kernel_rfl)) (fun _ _ _ h => h) (Or.inr ⟨by rfl, rfl⟩) ?_ ?_
   rotate_left
   ·simp only [Act.put, List.setIfInBounds_toArray, List.set_cons_zero, List.set_cons_succ, i64_w, i32_w]
    rfl
   refine pure_ (i := 24) (N := some 29) (v := undef) (a' := ?_) #[true, true, true, true, true, true, true, true, true, true, true, true, true, true, true, true, true, true, true, true, true, true, true, true, true, false, false] rfl rfl (any_of HT_.out (by kernel_rfl)) (fun _ _ _ h => h) (Or.inr ⟨by rfl, rfl⟩) ?_ ?_
   rotate_left
   ·simp only [Act.put, List.setIfInBounds_toArray, List.set_cons_zero, List.set_cons_succ, i64_w, i32_w]
    rfl
   refine pure_ (i := 25) (N := some 30) (v := ?_) (a' := ?_) #[true, true, true, true, true, true, true, true, true, true, true, true, true, true, true, true, true, true, true, true, true, true, true, true, true, true, false] rfl rfl (any_of HT_.out (by kernel_rfl)) (fun _ _ _ h => h) (Or.inl ⟨by rfl, ?_⟩) ?_ ?_
   rotate_left
   ·intro w'
    go_simp
    with_reducible rfl
   rotate_left
   ·simp only [Act.put, List.setIfInBounds_toArray, List.set_cons_zero, List.set_cons_succ, i64_w, i32_w]
    rfl
   have zz := hCont (undef, undef, undef) _ ⟨⟨(blk_cell BPJ3.out 0).trans rfl, (blk_cell BSJ3.out 0).trans rfl, (blk_cell BSJ3.out 1).trans rfl⟩, BPJ3.out, BSJ3.out, HBJ3.out⟩
   simp only [putAll, Act.put, List.setIfInBounds_toArray, List.set_cons_zero, List.set_cons_succ] at zz
   exact zz
  ·have E1 := am_ (G4.out rfl)
   refine pure_ (i := 22) (N := some 27) (v := ?_) (a' := ?_) #[true, true, true, true, true, true, true, true, true, true, true, true, true, true, true, true, true, true, true, true, true, true, true, false, false, false, false] rfl rfl (any_of HT_.out (by kernel_rfl)) (fun _ _ _ h => h) (Or.inl ⟨by rfl, ?_⟩) ?_ ?_
   rotate_left
   ·intro w'
    go_simp
    with_reducible rfl
   rotate_left
   ·simp only [Act.put, List.setIfInBounds_toArray, List.set_cons_zero, List.set_cons_succ, i64_w, i32_w]
    rfl
   refine take_ (i := 23) (N := some 28) (v := ?_) (a' := ?_) #[true, true, true, true, true, true, true, true, true, true, true, true, true, true, true, true, true, true, true, true, true, true, true, true, false, false, false] rfl rfl (take_ofW HT_.out HW_.out (by kernel_rfl)) (fun _ _ _ h => h) (Or.inl ⟨by rfl, ?_⟩) hHeld ?_ ?_
   rotate_left
   ·intro w' s0
    have s1 := s0.2.2
    go_simp
    with_reducible rfl
   rotate_left
   ·simp only [Act.put, List.setIfInBounds_toArray, List.set_cons_zero, List.set_cons_succ, i64_w, i32_w]
    rfl
   refine one_ (i := 24) (N := some 29) #[true, true, true, true, true, true, true, true, true, true, true, true, true, true, true, true, true, true, true, true, true, true, true, true, true, false, false] rfl rfl (one_of HT_.out (by kernel_rfl)) (by decide) (fun K hK => ?_)
   refine goes_ Try.func107 (by kernel_rfl) rfl #[.slice A1_1 l1_1.length c1_1] (by rfl) rfl rfl (by (try simp only [List.map_toArray, List.map_cons, List.map_nil]); first | done | rfl) ?_
   with_reducible refine (impl_valsOk.calls _ _ l1_1 r _ (Kd.C_below C2.out HBJ3.out) L2.out E1.out).mono ?_
   rintro e Y4 ⟨rfl, hb⟩
   refine ⟨_, rfl, ?_⟩
   have BPY4 := am_ (blk_below BPJ3.out hb)
   have BSY4 := am_ (blk_below BSJ3.out hb)
   have HBY4 := am_ (below_then HBJ3.out HBJ3.out.size hb)
   clear hb BPJ3 BSJ3 HBJ3
   refine hK.out _ _ ⟨(blk_cell BPY4.out 0).trans rfl, (blk_cell BSY4.out 0).trans rfl, (blk_cell BSY4.out 1).trans rfl⟩ (fun hHeld => ?_)
   clear hK K
   refine norm_ (a' := ?_) ?_ ?_
   rotate_left
   ·show Act.put _ (some 29) _ = _
    simp only [Act.put, List.setIfInBounds_toArray, List.set_cons_zero, List.set_cons_succ, i64_w, i32_w]
    rfl
   refine pure_ (i := 25) (N := some 30) (v := ?_) (a' := ?_) #[true, true, true, true, true, true, true, true, true, true, true, true, true, true, true, true, true, true, true, true, true, true, true, true, true, true, false] rfl rfl (any_of HT_.out (by kernel_rfl)) (fun _ _ _ h => h) (Or.inl ⟨by rfl, ?_⟩) ?_ ?_
   rotate_left
   ·intro w'
    go_simp
    with_reducible rfl
   rotate_left
   ·simp only [Act.put, List.setIfInBounds_toArray, List.set_cons_zero, List.set_cons_succ, i64_w, i32_w]
    rfl
   have zz := hCont (.pointer (some ⟨w.heap.size + 1, 1, none⟩), .slice A1_1 l1_1.length c1_1, .bool r) _ ⟨⟨(blk_cell BPY4.out 0).trans rfl, (blk_cell BSY4.out 0).trans rfl, (blk_cell BSY4.out 1).trans rfl⟩, BPY4.out, BSY4.out, HBY4.out⟩
   simp only [putAll, Act.put, List.setIfInBounds_toArray, List.set_cons_zero, List.set_cons_succ] at zz
   exact zz
 rintro ⟨z0, z1, z2⟩ Z4 ⟨hHeld, hp, hs, hb⟩
 clear BPJ3 BSJ3 HBJ3
 have BPJ4 := am_ hp
 have BSJ4 := am_ hs
 have HBJ4 := am_ hb
 clear hp hs hb
 refine norm_ (a' := ?_) ?_ ?_
 rotate_left
 ·simp only [putAll, Act.put, List.setIfInBounds_toArray, List.set_cons_zero, List.set_cons_succ, i64_w, i32_w]
  rfl
 refine pure_ (i := 26) (N := some 4) (v := ?_) (a' := ?_) #[true, true, true, true, true, true, true, true, true, true, true, true, true, true, true, true, true, true, true, true, true, true, true, true, true, true, true] rfl rfl (any_of HT_.out (by kernel_rfl)) (fun _ _ _ h => h) (Or.inl ⟨by rfl, ?_⟩) ?_ ?_
 rotate_left
 ·intro w'
  go_simp
  with_reducible rfl
 rotate_left
 ·simp only [Act.put, List.setIfInBounds_toArray, List.set_cons_zero, List.set_cons_succ, i64_w, i32_w]
  rfl
 refine done_ (done_of HT_.out (by kernel_rfl)) ?_
 clear HT_ HW_ hHeld
 go_wp2_with fail
 refine bodyPost_ret (results_tmp rfl _ _ _) rfl ?_
 exact ⟨rfl, HBJ4.out⟩


end Go.Proofs.Ytefkbmhkhpekjaa.PB

namespace Go.Proofs.Ytefkbmhkhpekjaa.PB
open Go.RowKit Go.Proofs.YtefkbmhkhpekjaaW.PrintWords Go.Proofs.YtefkbmhkhpekjaaW.PrintLast Go.Proofs.YtefkbmhkhpekjaaW.PrintMore
attribute [local go_sem] max2_int min2_int max_two min_two max_three min_three max_four min_four   -- for this text's walks alone
open Go.Proofs.YtefkbmhkhpekjaaMine
set_option linter.unusedVariables false
set_option linter.unusedSimpArgs false

/-! ### slices_Clone_int_int: function 68 -/
def slices_Clone_int_int.f (l0 : List Int) : Option (List Int) := if l0.length < 1048577 then some l0 else none
set_option maxRecDepth 100000 in
set_option maxHeartbeats 800000 in
theorem slices_Clone_int_int.calls (A0 : Option Addr) (c0 : Nat) (l0 : List Int) (r : List Int) (w : World) (hr0 : Kd.C (Kd.int .i64) w A0 l0.length l0) (hc0 : l0.length ≤ c0) (h : slices_Clone_int_int.f l0 = some r) :
  Calls Try.prog 68 #[.slice A0 l0.length c0] w fun e w' => ∃ v0_ : Value, e = .returned (v0_) ∧ Kd.R (Kd.int .i64) 3 w' w.heap.size (fun _ => True) v0_ r ∧ Below w.heap.size w w' := by
 unfold slices_Clone_int_int.f at h
 split at h
 ·rename_i hl
  injection h with h; subst h
  have qT : ∀ (w : World) (a : Option Addr) (n c n' c' : Nat), (binOp .eql 22 (.slice a n c) (.slice none n' c')).run Try.prog w = .ok (.bool a.isNone) w := fun w a n c n' c' => Lib.run_eql_slice_nil w _ _ a n c n' c' Try.underlying22
  rcases A0 with _ | ad
  ·obtain rfl := nil_of_none hr0
   go_enter Try.func68, Try.ntmps68
   go_wp2_with fail
   go_ret
   exact ⟨_, rfl, Kd.R_nil _ _ _ _ _, Below.refl _ _⟩
  ·go_enter Try.func68, Try.ntmps68
   go_wp2_with (at_builtin; refine park ?_)
   refine ⟨?_⟩
   refine Kd.R_append_rows (Kd.int .i64) (Rr := (Kd.int .i64).K (w.alloc (Obj.cells #[] 3))) (w0 := w) w.heap.size (by rfl) (.tmp 5) (.tmp 6) 22 3 (.int .i64 0) 8 rfl Try.underlying22 info3 rfl (by decide) (by omega) (.slice (some ⟨w.heap.size, 0, none⟩) 0 0) [] l0 (some ad) l0.length c0 (fun _ => True) (fun _ => False) rfl rfl ?aO ?aR ?aK (fun _ h => h.elim) (fun _ _ => trivial) ?aB (by simp) ?aL ?_
   case aO => exact R_empty _ _ _ _ _ (Nat.le_refl _) trivial
   case aR => exact C_rows (Kd.C_below hr0 (below_alloc (Below.refl _ _) _))
   case aK => intro x cs hx; exact hx
   case aB => exact below_alloc (Below.refl _ _) _
   case aL => simp; omega
   intro v1 w1 ho1 hb1 _ _
   go_wp2_with fail
   go_ret
   exact ⟨_, rfl, by simpa using ho1, hb1⟩
 ·cases h


end Go.Proofs.Ytefkbmhkhpekjaa.PB

namespace Go.Proofs.Ytefkbmhkhpekjaa.PB
open Go.RowKit Go.Proofs.YtefkbmhkhpekjaaW.PrintWords Go.Proofs.YtefkbmhkhpekjaaW.PrintLast Go.Proofs.YtefkbmhkhpekjaaW.PrintMore
attribute [local go_sem] max2_int min2_int max_two min_two max_three min_three max_four min_four   -- for this text's walks alone
open Go.Proofs.YtefkbmhkhpekjaaMine
set_option linter.unusedVariables false
set_option linter.unusedSimpArgs false

theorem z133_1 {p : Prop} (h : p := by first | rfl | (simp; done) | (simp [*]; done)) : p := h
theorem z133_2 {p : Prop} (h : p := by first | (with_reducible assumption) | assumption) : p := h
theorem z133_3 {p : Prop} (h : p := by repeat (first | exact Drawn0.refl _ | apply Drawn0.step)) : p := h
/-! ### slices_Index_int_int: function 133 -/
def slices_Index_int_int.l0 : Nat → List Int → Int → Int → Int → Option (Int)
  | 0, _, _, _, _ => none
  | k + 1, x0, x1, x7, x8 => if x8 < x7 then (if 0 ≤ x8 then (if x8 < (x0.length : Int) then (if x1 = (rd x0 x8) then (some x8) else (slices_Index_int_int.l0 k x0 x1 x7 (wrap64 (x8 + 1)))) else (none)) else (none)) else (some (-1))
def slices_Index_int_int.f (k : Nat) (l0 : List Int) (a1 : Int) : Option (Int) := slices_Index_int_int.l0 k l0 a1 (l0.length : Int) 0
set_option maxHeartbeats 8000000 in
set_option maxRecDepth 100000 in
theorem slices_Index_int_int.calls (k : Nat) (A0 : Option Addr) (c0 : Nat) (l0 : List Int) (a1 : Int) (r : Int) (w : World) (hr0 : Kd.C (Kd.int .i64) w A0 l0.length l0) (hc0 : l0.length ≤ c0) (h : slices_Index_int_int.f k l0 a1 = some r) :
  Calls Try.prog 133 #[.slice A0 l0.length c0, .int .i64 a1] w fun e w' => e = .returned (.int .i64 r) ∧ Drawn0 w w' := by
 have HR0 := am_ hr0
 have HC0 := am_ hc0
 clear hr0 hc0
 have H : (slices_Index_int_int.l0 k l0 a1 (l0.length : Int) 0) = some r := h
 clear h
 have H' := am_ H
 clear H
 go_enter Try.func133, Try.ntmps133
 go_wp2
 go_loopg [8] k (fun kq v8 w' => ∃ (x8_1 : Int), v8 = .int .i64 x8_1 ∧ Aside0 (slices_Index_int_int.l0 kq l0 a1 (l0.length : Int) x8_1 = some r) ∧ Aside0 (kq ≤ k) ∧ Drawn0 w w')
 case atStart => exact ⟨(0), z133_1, H', ⟨Nat.le_refl _⟩, z133_3⟩
 case round =>
  clear H'
  obtain ⟨x8_1, rfl, HA, HK1, ⟨m1, rfl⟩⟩ := hrel
  cases gk with
  | zero => exact absurd HA.out (by simp [slices_Index_int_int.l0])
  | succ k1 =>
   have H := HA.out
   clear HA
   simp only [slices_Index_int_int.l0] at H
   by_cases c3 : x8_1 < (l0.length : Int)
   ·rw [if_pos c3] at H
    have c3b0 : decide (x8_1 < (l0.length : Int)) = true := decide_eq_true c3
    clear c3
    by_cases c4 : 0 ≤ x8_1
    ·rw [if_pos c4] at H
     have c4b0 : decide (0 ≤ x8_1) = true := decide_eq_true c4
     clear c4
     by_cases c5 : x8_1 < (l0.length : Int)
     ·rw [if_pos c5] at H
      have c5b0 : decide (x8_1 < (l0.length : Int)) = true := decide_eq_true c5
      clear c5
      by_cases c6 : a1 = (rd l0 x8_1)
      ·rw [if_pos c6] at H
       have c6b0 : (a1 == (rd l0 x8_1)) = true := beq_iff_eq.mpr c6
       have c6b1 : (a1 != (rd l0 x8_1)) = false := bne_eq_false_iff_eq.mpr c6
       clear c6
       obtain rfl := Option.some.inj H
       have p456 : 0 ≤ (x8_1 : Int) := of_decide_eq_true z133_2
       have q456 : x8_1 < (l0.length : Int) := of_decide_eq_true z133_2
       obtain ⟨ad456, e456, hx456_0⟩ := Kd.at_int HR0.out x8_1 p456 q456
       cases e456
       replace p456 := eq_true p456
       replace q456 := eq_true q456
       go_wp2
       go_ret
       exact ⟨z133_1, z133_3⟩
      ·rw [if_neg c6] at H
       have c6b0 : (a1 == (rd l0 x8_1)) = false := beq_eq_false_iff_ne.mpr c6
       have c6b1 : (a1 != (rd l0 x8_1)) = true := bne_iff_ne.mpr c6
       have H' := am_ H
       clear H
       have p456 : 0 ≤ (x8_1 : Int) := of_decide_eq_true z133_2
       have q456 : x8_1 < (l0.length : Int) := of_decide_eq_true z133_2
       obtain ⟨ad456, e456, hx456_0⟩ := Kd.at_int HR0.out x8_1 p456 q456
       cases e456
       replace p456 := eq_true p456
       replace q456 := eq_true q456
       go_wp2
       go_roundg k1
       case measure => have := HK1.out; omega
       case rel => exact ⟨(wrap64 (x8_1 + 1)), z133_1, H', ⟨by have := HK1.out; omega⟩, z133_3⟩
     ·rw [if_neg c5] at H
      exact absurd H (by simp)
    ·rw [if_neg c4] at H
     exact absurd H (by simp)
   ·rw [if_neg c3] at H
    have c3b0 : decide (x8_1 < (l0.length : Int)) = false := decide_eq_false c3
    clear c3
    obtain rfl := Option.some.inj H
    go_wp2
    go_ret
    exact ⟨z133_1, z133_3⟩

end Go.Proofs.Ytefkbmhkhpekjaa.PB

namespace Go.Proofs.Ytefkbmhkhpekjaa.PB
open Go.RowKit Go.Proofs.YtefkbmhkhpekjaaW.PrintWords Go.Proofs.YtefkbmhkhpekjaaW.PrintLast Go.Proofs.YtefkbmhkhpekjaaW.PrintMore
attribute [local go_sem] max2_int min2_int max_two min_two max_three min_three max_four min_four   -- for this text's walks alone
open Go.Proofs.YtefkbmhkhpekjaaMine
set_option linter.unusedVariables false
set_option linter.unusedSimpArgs false

/-! ### slices_Contains_int_int: function 120 -/
def slices_Contains_int_int.f (k : Nat) (l0 : List Int) (a1 : Int) : Option (Bool) := (slices_Index_int_int.f k l0 a1).bind fun t457 => (some (decide (t457 ≥ 0)))
set_option maxHeartbeats 8000000 in
set_option maxRecDepth 100000 in
theorem slices_Contains_int_int.calls (k : Nat) (A0 : Option Addr) (c0 : Nat) (l0 : List Int) (a1 : Int) (r : Bool) (w : World) (hr0 : Kd.C (Kd.int .i64) w A0 l0.length l0) (hc0 : l0.length ≤ c0) (h : slices_Contains_int_int.f k l0 a1 = some r) :
  Calls Try.prog 120 #[.slice A0 l0.length c0, .int .i64 a1] w fun e w' => e = .returned (.bool r) ∧ Drawn0 w w' := by
 have HR0 := am_ hr0
 have HC0 := am_ hc0
 clear hr0 hc0
 have H : ((slices_Index_int_int.f k l0 a1).bind fun t457 => (some (decide (t457 ≥ 0)))) = some r := h
 clear h
 replace H := Option.bind_eq_some_iff.mp H
 obtain ⟨t457, A30, H⟩ := H
 replace H : (some (decide (t457 ≥ 0))) = some r := H
 have A3 := am_ A30
 clear A30
 obtain rfl := Option.some.inj H
 go_enter Try.func120, Try.ntmps120
 go_wp2_with (first | ((with_reducible refine gate_callee (f := 133) rfl ?_); refine goesL_ (some 7) rfl rfl Try.func133 (by kernel_rfl) rfl #[.slice A0 l0.length c0, .int .i64 a1] rfl (by (try simp only [List.map_toArray, List.map_cons, List.map_nil]); first | done | rfl | (simp only [List.length_drop, List.length_take]; rfl)) ?_; (with_reducible refine (slices_Index_int_int.calls k _ _ l0 a1 t457 _ ?side1 ?side2 A3.out).mono ?_); (case side1 => repeat (first | exact HR0.out | (with_reducible refine Kd.C_alloc ?_ _) | (with_reducible refine Kd.C_drewN ?_ _) | (with_reducible refine Kd.C_drew ?_))); (case side2 => exact HC0.out); rintro e w' ⟨rfl, ⟨nd, rfl⟩⟩; refine ⟨_, rfl, ?_⟩))
 go_ret
 exact ⟨by first | rfl | (simp; done) | (simp [*]; done), by repeat (first | exact Drawn0.refl _ | apply Drawn0.step)⟩

end Go.Proofs.Ytefkbmhkhpekjaa.PB

namespace Go.Proofs.Ytefkbmhkhpekjaa.PB
open Go.RowKit Go.Proofs.YtefkbmhkhpekjaaW.PrintWords Go.Proofs.YtefkbmhkhpekjaaW.PrintLast Go.Proofs.YtefkbmhkhpekjaaW.PrintMore
attribute [local go_sem] max2_int min2_int max_two min_two max_three min_three max_four min_four   -- for this text's walks alone
open Go.Proofs.YtefkbmhkhpekjaaMine
set_option linter.unusedVariables false
set_option linter.unusedSimpArgs false

theorem z97_1 {p : Prop} (h : p := by first | rfl | (simp; done) | (simp [*]; done)) : p := h
theorem z97_2 {p : Prop} (h : p := by repeat (first | exact Drawn0.refl _ | apply Drawn0.step)) : p := h
/-! ### impl_isRow: function 97 -/
def impl_isRow.l0 : Nat → List Int → Int → Int → Option (Bool)
  | 0, _, _, _ => none
  | k + 1, x0, x10, x11 => if x11 < x10 then ((slices_Contains_int_int.f k x0 x11).bind fun t933 => (if t933 = true then (impl_isRow.l0 k x0 x10 (wrap64 (x11 + 1))) else (some false))) else (some true)
def impl_isRow.f (k : Nat) (l0 : List Int) (a1 : Int) : Option (Bool) := if (l0.length : Int) = a1 then (impl_isRow.l0 k l0 a1 0) else (some false)
set_option maxHeartbeats 8000000 in
set_option maxRecDepth 100000 in
theorem impl_isRow.calls (k : Nat) (A0 : Option Addr) (c0 : Nat) (l0 : List Int) (a1 : Int) (r : Bool) (w : World) (hr0 : Kd.C (Kd.int .i64) w A0 l0.length l0) (hc0 : l0.length ≤ c0) (h : impl_isRow.f k l0 a1 = some r) :
  Calls Try.prog 97 #[.slice A0 l0.length c0, .int .i64 a1] w fun e w' => e = .returned (.bool r) ∧ Drawn0 w w' := by
 have HR0 := am_ hr0
 have HC0 := am_ hc0
 clear hr0 hc0
 have H : (if (l0.length : Int) = a1 then (impl_isRow.l0 k l0 a1 0) else (some false)) = some r := h
 clear h
 by_cases c3 : (l0.length : Int) = a1
 ·rw [if_pos c3] at H
  have c3b0 : ((l0.length : Int) == a1) = true := beq_iff_eq.mpr c3
  have c3b1 : ((l0.length : Int) != a1) = false := bne_eq_false_iff_eq.mpr c3
  clear c3
  have H' := am_ H
  clear H
  go_enter Try.func97, Try.ntmps97
  go_wp2
  go_loopg [11] k (fun kq v11 w' => ∃ (x11_1 : Int), v11 = .int .i64 x11_1 ∧ Aside0 (impl_isRow.l0 kq l0 a1 x11_1 = some r) ∧ Aside0 (kq ≤ k) ∧ Drawn0 w w')
  case atStart => exact ⟨(0), z97_1, H', ⟨Nat.le_refl _⟩, z97_2⟩
  case round =>
   clear H'
   obtain ⟨x11_1, rfl, HA, HK1, ⟨m1, rfl⟩⟩ := hrel
   cases gk with
   | zero => exact absurd HA.out (by simp [impl_isRow.l0])
   | succ k1 =>
    have H := HA.out
    clear HA
    simp only [impl_isRow.l0] at H
    by_cases c4 : x11_1 < a1
    ·rw [if_pos c4] at H
     have c4b0 : decide (x11_1 < a1) = true := decide_eq_true c4
     clear c4
     replace H := Option.bind_eq_some_iff.mp H
     obtain ⟨t933, A50, H⟩ := H
     replace H : (if t933 = true then (impl_isRow.l0 k1 l0 a1 (wrap64 (x11_1 + 1))) else (some false)) = some r := H
     have A5 := am_ A50
     clear A50
     by_cases c6 : t933 = true
     ·subst c6
      have H1 : (impl_isRow.l0 k1 l0 a1 (wrap64 (x11_1 + 1))) = some r := by rw [if_pos rfl] at H; exact H
      clear H
      have H := H1
      clear H1
      have H' := am_ H
      clear H
      go_wp2_with (first | ((with_reducible refine gate_callee (f := 120) rfl ?_); refine goesL_ (some 16) rfl rfl Try.func120 (by kernel_rfl) rfl #[.slice A0 l0.length c0, .int .i64 x11_1] rfl (by (try simp only [List.map_toArray, List.map_cons, List.map_nil]); first | done | rfl | (simp only [List.length_drop, List.length_take]; rfl)) ?_; (with_reducible refine (slices_Contains_int_int.calls k1 _ _ l0 x11_1 true _ ?side1 ?side2 A5.out).mono ?_); (case side1 => repeat (first | exact HR0.out | (with_reducible refine Kd.C_alloc ?_ _) | (with_reducible refine Kd.C_drewN ?_ _) | (with_reducible refine Kd.C_drew ?_))); (case side2 => exact HC0.out); rintro e w' ⟨rfl, ⟨nd, rfl⟩⟩; refine ⟨_, rfl, ?_⟩))
      go_roundg k1
      case measure => have := HK1.out; omega
      case rel => exact ⟨(wrap64 (x11_1 + 1)), z97_1, H', ⟨by have := HK1.out; omega⟩, z97_2⟩
     ·replace c6 := Bool.eq_false_iff.mpr c6
      subst c6
      have H1 : (some false) = some r := by rw [if_neg (show ¬ (false = true) by decide)] at H; exact H
      clear H
      have H := H1
      clear H1
      obtain rfl := Option.some.inj H
      go_wp2_with (first | ((with_reducible refine gate_callee (f := 120) rfl ?_); refine goesL_ (some 16) rfl rfl Try.func120 (by kernel_rfl) rfl #[.slice A0 l0.length c0, .int .i64 x11_1] rfl (by (try simp only [List.map_toArray, List.map_cons, List.map_nil]); first | done | rfl | (simp only [List.length_drop, List.length_take]; rfl)) ?_; (with_reducible refine (slices_Contains_int_int.calls k1 _ _ l0 x11_1 false _ ?side1 ?side2 A5.out).mono ?_); (case side1 => repeat (first | exact HR0.out | (with_reducible refine Kd.C_alloc ?_ _) | (with_reducible refine Kd.C_drewN ?_ _) | (with_reducible refine Kd.C_drew ?_))); (case side2 => exact HC0.out); rintro e w' ⟨rfl, ⟨nd, rfl⟩⟩; refine ⟨_, rfl, ?_⟩))
      go_ret
      exact ⟨z97_1, z97_2⟩
    ·rw [if_neg c4] at H
     have c4b0 : decide (x11_1 < a1) = false := decide_eq_false c4
     clear c4
     obtain rfl := Option.some.inj H
     go_wp2
     go_ret
     exact ⟨z97_1, z97_2⟩
 ·rw [if_neg c3] at H
  have c3b0 : ((l0.length : Int) == a1) = false := beq_eq_false_iff_ne.mpr c3
  have c3b1 : ((l0.length : Int) != a1) = true := bne_iff_ne.mpr c3
  obtain rfl := Option.some.inj H
  go_enter Try.func97, Try.ntmps97
  go_wp2
  go_ret
  exact ⟨z97_1, z97_2⟩

end Go.Proofs.Ytefkbmhkhpekjaa.PB

namespace Go.Proofs.Ytefkbmhkhpekjaa.PB
open Go.RowKit Go.Proofs.YtefkbmhkhpekjaaW.PrintWords Go.Proofs.YtefkbmhkhpekjaaW.PrintLast Go.Proofs.YtefkbmhkhpekjaaW.PrintMore
attribute [local go_sem] max2_int min2_int max_two min_two max_three min_three max_four min_four   -- for this text's walks alone
open Go.Proofs.YtefkbmhkhpekjaaMine
set_option linter.unusedVariables false
set_option linter.unusedSimpArgs false

theorem z61_1 {p : Prop} (h : p := by first | rfl | (simp; done) | (simp [*]; done)) : p := h
theorem z61_2 {p : Prop} (h : p := by first | (with_reducible assumption) | assumption) : p := h
theorem z61_3 {p : Prop} (h : p := by first | rfl | (simp [errW_none, errW_some] <;> rfl) | (simp [*, errW_none, errW_some] <;> rfl)) : p := h
theorem z61_4 {p : Prop} (h : p := by repeat (first | (with_reducible first | exact HB.out | apply below_alloc | apply pw_below_drewN | apply below_drew1) | exact HB.out)) : p := h
theorem z61_5 {p : Prop} (h : p := by first | exact Kd.R_nil _ _ _ _ _ | exact Kd.N_nil _ _ _ _ _ | exact Kd.V_nil _ _ _ _ _ | exact Kd.Q_nil _ _ _ _ _ | exact Kd.S_nil _ _ _ _ _) : p := h
theorem z61_6 {p : Prop} (h : p := by repeat (first | (with_reducible first | exact HB.out | apply below_alloc | apply pw_below_drewN | apply below_drew1 | refine below_set ?_ GE1167.out) | exact HB.out)) : p := h
theorem z61_7 {p : Prop} (h : p := by repeat (first | (with_reducible first | exact HB.out | apply below_alloc | apply pw_below_drewN | apply below_drew1 | refine below_set ?_ GE1167.out | refine below_set ?_ GE1168.out) | exact HB.out)) : p := h
theorem z61_8 {p : Prop} (h : p := by repeat (first | (with_reducible first | exact HB.out | apply below_alloc | apply pw_below_drewN | apply below_drew1 | refine below_set ?_ GE1167.out | refine below_set ?_ GE1168.out | refine below_set ?_ GE1169.out) | exact HB.out)) : p := h
theorem z61_9 {p : Prop} (h : p := by repeat (first | (with_reducible first | exact HB.out | apply below_alloc | apply pw_below_drewN | apply below_drew1 | refine below_set ?_ GE1167.out | refine below_set ?_ GE1168.out | refine below_set ?_ GE1169.out | refine below_set ?_ GE1186.out) | exact HB.out)) : p := h
/-! ### impl_TurnSeen: function 61 -/
mutual
def impl_TurnSeen.j0 : Nat → List Int → Bool → List (List (S85)) → List Int → List Int → Option (List Int × List Int × Bool)
  | 0, _, _, _, _, _ => none
  | k + 1, x2, x27, x1168000, x1169000, x1169001 => if x27 = true then (some (([] : List Int), ([] : List Int), false)) else (if 0 ≤ (x1168000.length : Int) then (if ((x1168000.length : Int) : Int).toNat ≤ 11728124029610 then (impl_TurnSeen.l0 k x2 (List.replicate ((x1168000.length : Int) : Int).toNat []) 0 x1168000 (x1168000.length : Int) 0 x1169000 x1169001) else (none)) else (none))
def impl_TurnSeen.l0 : Nat → List Int → List (List Int) → Int → List (List (S85)) → Int → Int → List Int → List Int → Option (List Int × List Int × Bool)
  | 0, _, _, _, _, _, _, _, _ => none
  | k + 1, x2, x8, x9, x34, x35, x36, x1169000, x1169001 => if x36 < x35 then (if 0 ≤ x36 then (if x36 < (x34.length : Int) then ((impl_readsOf.f k (rd_L7 x34 x36)).bind fun t1176 => (if 0 ≤ x9 then (if x9 ≤ (wrap64 (x9 + t1176)) then (if (wrap64 (x9 + t1176)) ≤ (x1169000.length : Int) then (if x36 < (x8.length : Int) then (impl_TurnSeen.l0 k x2 (x8.set (x36 : Int).toNat ((x1169000.take ((wrap64 (x9 + t1176)) : Int).toNat).drop (x9 : Int).toNat)) (wrap64 (x9 + t1176)) x34 x35 (wrap64 (x36 + 1)) x1169000 x1169001) else (none)) else (none)) else (none)) else (none))) else (none)) else (none)) else ((slices_Clone_int_int.f x1169001).bind fun t1183 => (impl_TurnSeen.l1 k x8 x2 (x2.length : Int) 0 ([] : List Int) t1183))
def impl_TurnSeen.l1 : Nat → List (List Int) → List Int → Int → Int → List Int → List Int → Option (List Int × List Int × Bool)
  | 0, _, _, _, _, _, _ => none
  | k + 1, x8, x61, x62, x63, x1187000, x1187001 => if x63 < x62 then (if 0 ≤ x63 then (if x63 < (x61.length : Int) then (if 0 ≤ (rd x61 x63) then (if (rd x61 x63) < (x8.length : Int) then (if x1187000.length + (rd_L4 x8 (rd x61 x63)).length < 17592186044416 then (impl_TurnSeen.l1 k x8 x61 x62 (wrap64 (x63 + 1)) (x1187000 ++ (rd_L4 x8 (rd x61 x63))) x1187001) else (none)) else (none)) else (none)) else (none)) else (none)) else (some (x1187000, x1187001, true))
end
def impl_TurnSeen.f (k : Nat) (l0_0 : List (List (S85))) (l1_0 : List Int) (l1_1 : List Int) (l2 : List Int) : Option (List Int × List Int × Bool) := (impl_SeenOk.f k l0_0 l1_0 l1_1).bind fun t1170 => (if t1170 = true then ((impl_isRow.f k l2 (l0_0.length : Int)).bind fun t1171 => (impl_TurnSeen.j0 k l2 (!t1171) l0_0 l1_0 l1_1)) else (impl_TurnSeen.j0 k l2 true l0_0 l1_0 l1_1))
def impl_TurnSeen.T16 : Bool × List (List Nat × List Nat) := (true, [([], []), ([0], [0]), ([], []), ([], []), ([2, 3], [2, 3]), ([4], [4]), ([1, 5], [1, 5]), ([0, 1, 2, 3, 4, 5, 6], []), ([7, 6, 6, 0, 1, 2, 3, 4, 5, 6], [6, 7])])
def impl_TurnSeen.B16 : List Nat := [0, 1, 0, 0, 12, 28, 63, 127, 255]
theorem impl_TurnSeen.tab16 : rtab .any (opsOf Try.f61 16) = impl_TurnSeen.T16 := by kernel_rfl
theorem impl_TurnSeen.bits16 : waitsOk impl_TurnSeen.T16.2 impl_TurnSeen.B16 = true := by kernel_rfl
set_option maxHeartbeats 8000000 in
set_option maxRecDepth 100000 in
theorem impl_TurnSeen.calls (k : Nat) (A0_0 : Option Addr) (c0_0 : Nat) (l0_0 : List (List (S85))) (P1_0_ : Nat → Prop) (A1_0 : Option Addr) (c1_0 : Nat) (l1_0 : List Int) (A1_1 : Option Addr) (c1_1 : Nat) (l1_1 : List Int) (A2 : Option Addr) (c2 : Nat) (l2 : List Int) (r1 : List Int) (r2 : List Int) (r3 : Bool) (w : World) (hr0_0 : Kd.C (Kd.slice 85 k85) w A0_0 l0_0.length l0_0) (hc0_0 : l0_0.length ≤ c0_0) (hs1_0 : Kd.V (Kd.int .i64) 3 w w.heap.size (fun k_ => P1_0_ k_) (.slice A1_0 l1_0.length c1_0) l1_0) (hr1_1 : Kd.C (Kd.int .i64) w A1_1 l1_1.length l1_1) (hc1_1 : l1_1.length ≤ c1_1) (hr2 : Kd.C (Kd.int .i64) w A2 l2.length l2) (hc2 : l2.length ≤ c2) (h : impl_TurnSeen.f k l0_0 l1_0 l1_1 l2 = some (r1, r2, r3)) :
  Calls Try.prog 61 #[.agg #[.slice A0_0 l0_0.length c0_0], .agg #[.slice A1_0 l1_0.length c1_0, .slice A1_1 l1_1.length c1_1], .slice A2 l2.length c2] w fun e w' => ∃ v0_ v1_ : Value, e = .returned (.tuple #[.agg #[v0_, v1_], .bool r3]) ∧ Kd.R (Kd.int .i64) 3 w' w.heap.size (fun k_ => (w.heap.size ≤ k_) ∧ some k_ ≠ (v1_ : Value).ownBlock) v0_ r1 ∧ Kd.R (Kd.int .i64) 3 w' w.heap.size (fun k_ => (w.heap.size ≤ k_) ∧ some k_ ≠ (v0_ : Value).ownBlock) v1_ r2 ∧ Below w.heap.size w w' := by
 have hu35 := Try.underlying35
 have hu24 := Try.underlying24
 have HR0_0 := am_ hr0_0
 have HC0_0 := am_ hc0_0
 clear hr0_0 hc0_0
 have HO1_0 := am_ (show Kd.V (Kd.int .i64) 3 w w.heap.size (fun k_ => (P1_0_ k_ ∨ w.heap.size ≤ k_)) (.slice A1_0 l1_0.length c1_0) l1_0 from Kd.V_mono hs1_0 (fun k_ hk => .inl hk))
 have HR1_1 := am_ hr1_1
 have HC1_1 := am_ hc1_1
 clear hr1_1 hc1_1
 have HR2 := am_ hr2
 have HC2 := am_ hc2
 clear hr2 hc2
 have HB := am_ (Below.refl w.heap.size w)
 have H : ((impl_SeenOk.f k l0_0 l1_0 l1_1).bind fun t1170 => (if t1170 = true then ((impl_isRow.f k l2 (l0_0.length : Int)).bind fun t1171 => (impl_TurnSeen.j0 k l2 (!t1171) l0_0 l1_0 l1_1)) else (impl_TurnSeen.j0 k l2 true l0_0 l1_0 l1_1))) = some (r1, r2, r3) := h
 clear h
 have HC4 := am_ H
 clear H
 go_enter Try.func61, Try.ntmps61
 go_upto_region 1 with (first | ((with_reducible refine gate_dst (N := 3) rfl ?_); (try (refine gate_guard (by rfl) ?_; dsimp only)); refine box_event ?hg (N := 3) ?hd (cs := #[.slice A0_0 l0_0.length c0_0]) (t := 35) ?hr ?_; (case hd => rfl); (case hg => rfl); (case hr => first | (go_simp; done) | (go_simp; rfl)); intro gb1167 hg w5 hbox hb; have n0_ := am_ (Kd.V_below (Kd.V_elderB (vu HO1_0.out) gb1167 (Nat.le_of_eq hg.symm)) hb); have n1_ := am_ (below_step z61_4 hb); have n2_ := am_ (hbox); have n3_ := am_ (by rw [hg]; exact (below_size z61_4) : w.heap.size ≤ gb1167); have n4_ := am_ (by rw [hg]; exact (below_size z61_4) : w.heap.size ≤ gb1167); clear HO1_0 HB; have HO1_0 := n0_; have HB := n1_; have BK1167 := n2_; have GW1167 := n3_; have GE1167 := n4_; clear n0_ n1_ n2_ n3_ n4_; clear hb hbox hg) | ((with_reducible refine gate_dst (N := 4) rfl ?_); (try (refine gate_guard (by rfl) ?_; dsimp only)); refine box_event ?hg (N := 4) ?hd (cs := #[.slice A1_0 l1_0.length c1_0, .slice A1_1 l1_1.length c1_1]) (t := 24) ?hr ?_; (case hd => rfl); (case hg => rfl); (case hr => first | (go_simp; done) | (go_simp; rfl)); intro gb1168 hg w6 hbox hb; have n0_ := am_ (Kd.V_below (Kd.V_elderB (vu HO1_0.out) gb1168 (Nat.le_of_eq hg.symm)) hb); have n1_ := am_ (blk_below (bu BK1167.out) hb); have n2_ := am_ (below_step z61_6 hb); have n3_ := am_ (hbox); have n4_ := am_ (by rw [hg]; exact (below_size z61_6) : w.heap.size ≤ gb1168); have n5_ := am_ (by rw [hg]; exact (below_size z61_6) : w.heap.size ≤ gb1168); have n6_ := am_ (by rw [hg]; exact Nat.ne_of_lt (blk_lt (bu BK1167.out)) : gb1167 ≠ gb1168); have n7_ := am_ (by rw [hg]; exact Nat.ne_of_gt (blk_lt (bu BK1167.out)) : gb1168 ≠ gb1167); clear HO1_0 BK1167 HB; have HO1_0 := n0_; have BK1167 := n1_; have HB := n2_; have BK1168 := n3_; have GW1168 := n4_; have GE1168 := n5_; have NB1167_1168 := n6_; have NB1168_1167 := n7_; clear n0_ n1_ n2_ n3_ n4_ n5_ n6_ n7_; clear hb hbox hg) | ((with_reducible refine gate_dst (N := 6) rfl ?_); (try (refine gate_guard (by rfl) ?_; dsimp only)); refine box_event ?hg (N := 6) ?hd (cs := #[.slice none 0 0, .slice none 0 0]) (t := 24) ?hr ?_; (case hd => rfl); (case hg => rfl); (case hr => first | (go_simp; done) | (go_simp; rfl)); intro gb1169 hg w7 hbox hb; have n0_ := am_ (Kd.V_below (Kd.V_elderB (vu HO1_0.out) gb1169 (Nat.le_of_eq hg.symm)) hb); have n1_ := am_ (blk_below (bu BK1167.out) hb); have n2_ := am_ (blk_below (bu BK1168.out) hb); have n3_ := am_ (below_step z61_7 hb); have n4_ := am_ (hbox); have n5_ := am_ (by rw [hg]; exact (below_size z61_7) : w.heap.size ≤ gb1169); have n6_ := am_ (by rw [hg]; exact (below_size z61_7) : w.heap.size ≤ gb1169); have n7_ := am_ (by rw [hg]; exact Nat.ne_of_lt (blk_lt (bu BK1167.out)) : gb1167 ≠ gb1169); have n8_ := am_ (by rw [hg]; exact Nat.ne_of_gt (blk_lt (bu BK1167.out)) : gb1169 ≠ gb1167); have n9_ := am_ (by rw [hg]; exact Nat.ne_of_lt (blk_lt (bu BK1168.out)) : gb1168 ≠ gb1169); have n10_ := am_ (by rw [hg]; exact Nat.ne_of_gt (blk_lt (bu BK1168.out)) : gb1169 ≠ gb1168); clear HO1_0 BK1167 BK1168 HB; have HO1_0 := n0_; have BK1167 := n1_; have BK1168 := n2_; have HB := n3_; have BK1169 := n4_; have GW1169 := n5_; have GE1169 := n6_; have NB1167_1169 := n7_; have NB1169_1167 := n8_; have NB1168_1169 := n9_; have NB1169_1168 := n10_; clear n0_ n1_ n2_ n3_ n4_ n5_ n6_ n7_ n8_ n9_ n10_; clear hb hbox hg))
 (try simp only [Act.put, List.setIfInBounds_toArray, List.set_cons_zero, List.set_cons_succ])
 go_cut [27] (fun v27 wc => ∃ (kq : Nat) (x27_3 : Bool), v27 = .bool x27_3 ∧ Aside0 (impl_TurnSeen.j0 kq l2 x27_3 l0_0 l1_0 l1_1 = some (r1, r2, r3)) ∧ Aside0 (kq ≤ k) ∧ Aside0 (Kd.V (Kd.int .i64) 3 wc w.heap.size (fun k_ => (P1_0_ k_ ∨ w.heap.size ≤ k_) ∧ k_ ≠ gb1167 ∧ k_ ≠ gb1168 ∧ k_ ≠ gb1169) (.slice A1_0 l1_0.length c1_0) l1_0) ∧ Aside0 (wc.heap[gb1167]? = some (.cells #[(.slice A0_0 l0_0.length c0_0)] 35 (0, 0))) ∧ Aside0 (wc.heap[gb1168]? = some (.cells #[(.slice A1_0 l1_0.length c1_0), (.slice A1_1 l1_1.length c1_1)] 24 (0, 0))) ∧ Aside0 (wc.heap[gb1169]? = some (.cells #[(.slice none 0 0), (.slice none 0 0)] 24 (0, 0))) ∧ Aside0 (Below w.heap.size w wc))
 case first =>
  have H := HC4.out
  clear HC4
  replace H := Option.bind_eq_some_iff.mp H
  obtain ⟨t1170, A80, H⟩ := H
  replace H : (if t1170 = true then ((impl_isRow.f k l2 (l0_0.length : Int)).bind fun t1171 => (impl_TurnSeen.j0 k l2 (!t1171) l0_0 l1_0 l1_1)) else (impl_TurnSeen.j0 k l2 true l0_0 l1_0 l1_1)) = some (r1, r2, r3) := H
  have A8 := am_ A80
  clear A80
  by_cases c9 : t1170 = true
  ·subst c9
   have H1 : ((impl_isRow.f k l2 (l0_0.length : Int)).bind fun t1171 => (impl_TurnSeen.j0 k l2 (!t1171) l0_0 l1_0 l1_1)) = some (r1, r2, r3) := by rw [if_pos rfl] at H; exact H
   clear H
   have H := H1
   clear H1
   replace H := Option.bind_eq_some_iff.mp H
   obtain ⟨t1171, A100, H⟩ := H
   replace H : (impl_TurnSeen.j0 k l2 (!t1171) l0_0 l1_0 l1_1) = some (r1, r2, r3) := H
   have A10 := am_ A100
   clear A100
   have H' := am_ H
   clear H
   have hnb11 := NB1167_1168.out
   have hnc11 := NB1168_1167.out
   have hnb12 := NB1167_1169.out
   have hnc12 := NB1169_1167.out
   have hcz13_0 : w7.cell? ⟨gb1167, 0, none⟩ = some (.slice A0_0 l0_0.length c0_0) := (blk_cell BK1167.out 0).trans rfl
   have hfz13_0 := blk_frozen BK1167.out 0
   have hnb14 := NB1168_1169.out
   have hnc14 := NB1169_1168.out
   have hcz15_0 : w7.cell? ⟨gb1168, 0, none⟩ = some (.slice A1_0 l1_0.length c1_0) := (blk_cell BK1168.out 0).trans rfl
   have hcz15_1 : w7.cell? ⟨gb1168, 1, none⟩ = some (.slice A1_1 l1_1.length c1_1) := (blk_cell BK1168.out 1).trans rfl
   have hfz15_0 := blk_frozen BK1168.out 0
   have hfz15_1 := blk_frozen BK1168.out 1
   go_wp2_with (first | ((with_reducible refine gate_callee (f := 63) rfl ?_); refine goesL_ (some 18) rfl rfl Try.func63 (by kernel_rfl) rfl #[.agg #[.slice A0_0 l0_0.length c0_0], .agg #[.slice A1_0 l1_0.length c1_0, .slice A1_1 l1_1.length c1_1]] rfl (by (try simp only [List.map_toArray, List.map_cons, List.map_nil]); first | done | rfl | (simp only [List.length_drop, List.length_take]; rfl)) ?_; (with_reducible refine (impl_SeenOk.calls k _ _ l0_0 _ _ l1_0 _ _ l1_1 true _ ?side1 ?side2 ?side3 ?side4 ?side5 ?side6 A8.out).mono ?_); (case side1 => repeat (first | exact (Kd.C_below HR0_0.out HB.out) | (with_reducible refine Kd.C_alloc ?_ _) | (with_reducible refine Kd.C_drewN ?_ _) | (with_reducible refine Kd.C_drew ?_))); (case side2 => exact HC0_0.out); (case side3 => repeat (first | exact (Kd.V_reads' HO1_0.out).2.2 | (with_reducible refine Kd.C_alloc ?_ _) | (with_reducible refine Kd.C_drewN ?_ _) | (with_reducible refine Kd.C_drew ?_))); (case side4 => exact (Kd.V_reads' HO1_0.out).2.1); (case side5 => repeat (first | exact (Kd.C_below HR1_1.out HB.out) | (with_reducible refine Kd.C_alloc ?_ _) | (with_reducible refine Kd.C_drewN ?_ _) | (with_reducible refine Kd.C_drew ?_))); (case side6 => exact HC1_1.out); rintro e w16 ⟨rfl, hb⟩; refine ⟨_, rfl, ?_⟩; have n0_ := am_ (Kd.V_below (vu HO1_0.out) hb); have n1_ := am_ (blk_below (bu BK1167.out) hb); have n2_ := am_ (blk_below (bu BK1168.out) hb); have n3_ := am_ (blk_below (bu BK1169.out) hb); have n4_ := am_ (below_step z61_8 hb); clear HO1_0 BK1167 BK1168 BK1169 HB; have HO1_0 := n0_; have BK1167 := n1_; have BK1168 := n2_; have BK1169 := n3_; have HB := n4_; clear n0_ n1_ n2_ n3_ n4_; (try clear hb); (try clear hb2); (try clear hk); (try clear hi); have hcz17_0 : w16.cell? ⟨gb1167, 0, none⟩ = some (.slice A0_0 l0_0.length c0_0) := (blk_cell BK1167.out 0).trans rfl; have hfz17_0 := blk_frozen BK1167.out 0) | (go_at_call 97; (with_reducible refine (impl_isRow.calls k _ _ l2 (l0_0.length : Int) t1171 _ ?side1 ?side2 A10.out).mono ?_); (case side1 => repeat (first | exact (Kd.C_below HR2.out HB.out) | (with_reducible refine Kd.C_alloc ?_ _) | (with_reducible refine Kd.C_drewN ?_ _) | (with_reducible refine Kd.C_drew ?_))); (case side2 => exact HC2.out); rintro e w' ⟨rfl, ⟨nd, rfl⟩⟩))
   go_meet
   case rel => exact ⟨_, (!t1171), z61_1, H', ⟨by first | omega | exact Nat.le_refl _⟩, ⟨vu (Kd.V_mono HO1_0.out (fun _ hk => ⟨hk.1.1.1, ⟨hk.1.1.2, ⟨hk.1.2, hk.2⟩⟩⟩))⟩, ⟨bu BK1167.out⟩, ⟨bu BK1168.out⟩, ⟨bu BK1169.out⟩, ⟨z61_8⟩⟩
  ·replace c9 := Bool.eq_false_iff.mpr c9
   subst c9
   have H1 : (impl_TurnSeen.j0 k l2 true l0_0 l1_0 l1_1) = some (r1, r2, r3) := by rw [if_neg (show ¬ (false = true) by decide)] at H; exact H
   clear H
   have H := H1
   clear H1
   have H' := am_ H
   clear H
   have hnb18 := NB1167_1168.out
   have hnc18 := NB1168_1167.out
   have hnb19 := NB1167_1169.out
   have hnc19 := NB1169_1167.out
   have hcz20_0 : w7.cell? ⟨gb1167, 0, none⟩ = some (.slice A0_0 l0_0.length c0_0) := (blk_cell BK1167.out 0).trans rfl
   have hfz20_0 := blk_frozen BK1167.out 0
   have hnb21 := NB1168_1169.out
   have hnc21 := NB1169_1168.out
   have hcz22_0 : w7.cell? ⟨gb1168, 0, none⟩ = some (.slice A1_0 l1_0.length c1_0) := (blk_cell BK1168.out 0).trans rfl
   have hcz22_1 : w7.cell? ⟨gb1168, 1, none⟩ = some (.slice A1_1 l1_1.length c1_1) := (blk_cell BK1168.out 1).trans rfl
   have hfz22_0 := blk_frozen BK1168.out 0
   have hfz22_1 := blk_frozen BK1168.out 1
   go_wp2_with (first | ((with_reducible refine gate_callee (f := 63) rfl ?_); refine goesL_ (some 18) rfl rfl Try.func63 (by kernel_rfl) rfl #[.agg #[.slice A0_0 l0_0.length c0_0], .agg #[.slice A1_0 l1_0.length c1_0, .slice A1_1 l1_1.length c1_1]] rfl (by (try simp only [List.map_toArray, List.map_cons, List.map_nil]); first | done | rfl | (simp only [List.length_drop, List.length_take]; rfl)) ?_; (with_reducible refine (impl_SeenOk.calls k _ _ l0_0 _ _ l1_0 _ _ l1_1 false _ ?side1 ?side2 ?side3 ?side4 ?side5 ?side6 A8.out).mono ?_); (case side1 => repeat (first | exact (Kd.C_below HR0_0.out HB.out) | (with_reducible refine Kd.C_alloc ?_ _) | (with_reducible refine Kd.C_drewN ?_ _) | (with_reducible refine Kd.C_drew ?_))); (case side2 => exact HC0_0.out); (case side3 => repeat (first | exact (Kd.V_reads' HO1_0.out).2.2 | (with_reducible refine Kd.C_alloc ?_ _) | (with_reducible refine Kd.C_drewN ?_ _) | (with_reducible refine Kd.C_drew ?_))); (case side4 => exact (Kd.V_reads' HO1_0.out).2.1); (case side5 => repeat (first | exact (Kd.C_below HR1_1.out HB.out) | (with_reducible refine Kd.C_alloc ?_ _) | (with_reducible refine Kd.C_drewN ?_ _) | (with_reducible refine Kd.C_drew ?_))); (case side6 => exact HC1_1.out); rintro e w23 ⟨rfl, hb⟩; refine ⟨_, rfl, ?_⟩; have n0_ := am_ (Kd.V_below (vu HO1_0.out) hb); have n1_ := am_ (blk_below (bu BK1167.out) hb); have n2_ := am_ (blk_below (bu BK1168.out) hb); have n3_ := am_ (blk_below (bu BK1169.out) hb); have n4_ := am_ (below_step z61_8 hb); clear HO1_0 BK1167 BK1168 BK1169 HB; have HO1_0 := n0_; have BK1167 := n1_; have BK1168 := n2_; have BK1169 := n3_; have HB := n4_; clear n0_ n1_ n2_ n3_ n4_; (try clear hb); (try clear hb2); (try clear hk); (try clear hi)))
   go_meet
   case rel => exact ⟨_, (true), z61_1, H', ⟨by first | omega | exact Nat.le_refl _⟩, ⟨vu (Kd.V_mono HO1_0.out (fun _ hk => ⟨hk.1.1.1, ⟨hk.1.1.2, ⟨hk.1.2, hk.2⟩⟩⟩))⟩, ⟨bu BK1167.out⟩, ⟨bu BK1168.out⟩, ⟨bu BK1169.out⟩, ⟨z61_8⟩⟩
 case rest =>
  clear HC4
  obtain ⟨kq, x27_3, rfl, HA, HJ3, HO_1169000, BK1167, BK1168, BK1169, HB⟩ := hcut
  cases kq with
  | zero => exact absurd HA.out (by simp [impl_TurnSeen.j0])
  | succ kj3 =>
   have H := HA.out
   clear HA
   simp only [impl_TurnSeen.j0] at H
   by_cases c24 : x27_3 = true
   ·subst c24
    have H1 : (some (([] : List Int), ([] : List Int), false)) = some (r1, r2, r3) := by rw [if_pos rfl] at H; exact H
    clear H
    have H := H1
    clear H1
    simp only [Option.some.injEq, Prod.mk.injEq] at H
    obtain ⟨rfl, rfl, rfl⟩ := H
    have hnb25 := NB1169_1167.out
    have hnc25 := NB1167_1169.out
    have hnb26 := NB1169_1168.out
    have hnc26 := NB1168_1169.out
    have hcz27_0 : wc.cell? ⟨gb1169, 0, none⟩ = some (.slice none 0 0) := (blk_cell BK1169.out 0).trans rfl
    have hcz27_1 : wc.cell? ⟨gb1169, 1, none⟩ = some (.slice none 0 0) := (blk_cell BK1169.out 1).trans rfl
    have hfz27_0 := blk_frozen BK1169.out 0
    have hfz27_1 := blk_frozen BK1169.out 1
    go_wp2
    refine bodyPost_ret (results_ct rfl _ _ gb1169 24 #[.slice none 0 0, .slice none 0 0] (0, 0) _ rfl (by (with_reducible repeat (first | refine blk_drewN ?_ _ | refine blk_drew ?_ | refine blk_alloc ?_ _)); refine blk_put (cs := #[.slice none 0 0, .slice none 0 0]) ?_ 1 _ rfl; (with_reducible repeat (first | refine blk_drewN ?_ _ | refine blk_drew ?_ | refine blk_alloc ?_ _)); refine blk_put (cs := #[.slice none 0 0, .slice none 0 0]) ?_ 0 _ rfl; (with_reducible repeat (first | refine blk_drewN ?_ _ | refine blk_drew ?_ | refine blk_alloc ?_ _)); exact BK1169.out) Try.underlying24 rfl (by kernel_rfl)) rfl ?_
    exact ⟨_, _, z61_3, z61_5, z61_5, z61_8⟩
   ·replace c24 := Bool.eq_false_iff.mpr c24
    subst c24
    have H1 : (if 0 ≤ (l0_0.length : Int) then (if ((l0_0.length : Int) : Int).toNat ≤ 11728124029610 then (impl_TurnSeen.l0 kj3 l2 (List.replicate ((l0_0.length : Int) : Int).toNat []) 0 l0_0 (l0_0.length : Int) 0 l1_0 l1_1) else (none)) else (none)) = some (r1, r2, r3) := by rw [if_neg (show ¬ (false = true) by decide)] at H; exact H
    clear H
    have H := H1
    clear H1
    by_cases c28 : 0 ≤ (l0_0.length : Int)
    ·rw [if_pos c28] at H
     have c28b0 := eq_true c28
     have c28b1 : decide (0 ≤ (l0_0.length : Int)) = true := decide_eq_true c28
     clear c28
     by_cases c29 : ((l0_0.length : Int) : Int).toNat ≤ 11728124029610
     ·rw [if_pos c29] at H
      have c29b0 := eq_true c29
      have c29b1 : decide (((l0_0.length : Int) : Int).toNat ≤ 11728124029610) = true := decide_eq_true c29
      clear c29
      obtain ⟨y1172, hy1172⟩ : ∃ y_ : List (List Int), y_ = (List.replicate ((l0_0.length : Int) : Int).toNat []) := ⟨_, rfl⟩
      replace H : (impl_TurnSeen.l0 kj3 l2 y1172 0 l0_0 (l0_0.length : Int) 0 l1_0 l1_1) = some (r1, r2, r3) := by first | (rw [hy1172]; with_reducible exact H) | (have H2_ := (Option.bind_some _ _).symm.trans H; rw [hy1172]; with_reducible exact H2_) | (have H2_ := (Option.bind_some _ _).symm.trans H; with_reducible exact H2_) | with_reducible exact H | (rw [hy1172]; exact H) | exact H
      have Ny1172 := am_ hy1172
      clear hy1172
      have H' := am_ H
      clear H
      have hnb30 := NB1167_1168.out
      have hnc30 := NB1168_1167.out
      have hnb31 := NB1167_1169.out
      have hnc31 := NB1169_1167.out
      have hcz32_0 : wc.cell? ⟨gb1167, 0, none⟩ = some (.slice A0_0 l0_0.length c0_0) := (blk_cell BK1167.out 0).trans rfl
      have hfz32_0 := blk_frozen BK1167.out 0
      go_wp2_with (first | ((with_reducible refine gate_dst (N := 32) rfl ?_); (try (refine gate_guard (by rfl) ?_; dsimp only)); refine Kd.N_make (Kd.slice 3 (Kd.int .i64)) _ 22 rfl (N' := 32) rfl 109 _ _ rfl (l0_0.length : Int) rfl rfl Try.underlying109 (.slice none 0 0) 24 info22 rfl (by decide) (by omega) [] (ok := fun k_ => wc.heap.size ≤ k_) (okp := fun _ => False) (Kd.FK_slice_mk (Nat.le_refl _) (Kd.F_nil _ _ _)) (fun _ hk => hk.elim) (Nat.le_refl _) (of_decide_eq_true z61_2) (Nat.le_trans (Nat.mul_le_mul_right _ (of_decide_eq_true z61_2 : (l0_0.length : Int).toNat ≤ 11728124029610)) (by omega)) (Below.refl _ _) (Nat.le_refl _) ?_; intro v1173 w33 ho34 hb hg_ hnew_; clear hg_ hnew_; (first | rw [← Ny1172.out] at ho34 | (simp only [Int.reduceToNat] at ho34; rw [← Ny1172.out] at ho34)); have n0_ := am_ (Kd.V_elder' (vu HO_1169000.out) (by first | exact Kd.N_base ho34 | exact Kd.S_base ho34) hb); have n1_ := am_ (Kd.N_lower (Kd.N_mono (ok' := fun k_ => (P1_0_ k_ ∨ w.heap.size ≤ k_) ∧ k_ ≠ gb1167 ∧ k_ ≠ gb1168 ∧ k_ ≠ gb1169) ho34 (fun k_ hk_ => ⟨(.inr (Nat.le_trans (below_size z61_8) hk_)), (Kd.freshB (bu BK1167.out) k_ hk_), (Kd.freshB (bu BK1168.out) k_ hk_), (Kd.freshB (bu BK1169.out) k_ hk_)⟩)) (below_size z61_8)); have n2_ := am_ (blk_below (bu BK1167.out) hb); have n3_ := am_ (blk_below (bu BK1168.out) hb); have n4_ := am_ (blk_below (bu BK1169.out) hb); have n5_ := am_ (below_step z61_8 hb); clear HO_1169000 BK1167 BK1168 BK1169 HB; have HO_1169000 := n0_; have HO1174 := n1_; have BK1167 := n2_; have BK1168 := n3_; have BK1169 := n4_; have HB := n5_; clear n0_ n1_ n2_ n3_ n4_ n5_; clear hb ho34; have hcz35_0 : w33.cell? ⟨gb1167, 0, none⟩ = some (.slice A0_0 l0_0.length c0_0) := (blk_cell BK1167.out 0).trans rfl; have hfz35_0 := blk_frozen BK1167.out 0))
      go_loopg [9, 36] kj3 (fun kq v9 v36 w' => ∃ (x8_2 : List (List Int)) (x9_2 : Int) (x36_2 : Int), v9 = .int .i64 x9_2 ∧ v36 = .int .i64 x36_2 ∧ Aside0 (impl_TurnSeen.l0 kq l2 x8_2 x9_2 l0_0 (l0_0.length : Int) x36_2 l1_0 l1_1 = some (r1, r2, r3)) ∧ Aside0 (kq ≤ kj3) ∧ Aside0 (Kd.N (Kd.slice 3 (Kd.int .i64)) 22 w' w.heap.size (fun k_ => (P1_0_ k_ ∨ w.heap.size ≤ k_) ∧ k_ ≠ gb1167 ∧ k_ ≠ gb1168 ∧ k_ ≠ gb1169) v1173 x8_2) ∧ Aside0 (Kd.V (Kd.int .i64) 3 w' w.heap.size (fun k_ => (P1_0_ k_ ∨ w.heap.size ≤ k_) ∧ some k_ ≠ (v1173 : Value).ownBlock ∧ k_ ≠ gb1167 ∧ k_ ≠ gb1168 ∧ k_ ≠ gb1169) (.slice A1_0 l1_0.length c1_0) l1_0) ∧ Aside0 (w'.heap[gb1167]? = some (.cells #[(.slice A0_0 l0_0.length c0_0)] 35 (0, 0))) ∧ Aside0 (w'.heap[gb1168]? = some (.cells #[(.slice A1_0 l1_0.length c1_0), (.slice A1_1 l1_1.length c1_1)] 24 (0, 0))) ∧ Aside0 (w'.heap[gb1169]? = some (.cells #[(.slice none 0 0), (.slice none 0 0)] 24 (0, 0))) ∧ Aside0 (Below w.heap.size w w'))
      case atStart => exact ⟨(y1172), (0), (0), z61_1, z61_1, H', ⟨Nat.le_refl _⟩, ⟨nu HO1174.out⟩, ⟨vu (Kd.V_mono HO_1169000.out (fun _ hk => ⟨hk.1.1, ⟨hk.2, ⟨hk.1.2.1, ⟨hk.1.2.2.1, hk.1.2.2.2⟩⟩⟩⟩))⟩, ⟨bu BK1167.out⟩, ⟨bu BK1168.out⟩, ⟨bu BK1169.out⟩, ⟨z61_8⟩⟩
      case round =>
       clear H'
       obtain ⟨x8_2, x9_2, x36_2, rfl, rfl, HA, HK2, HO_8, HO_1169000, BK1167, BK1168, BK1169, HB⟩ := hrel
       cases gk with
       | zero => exact absurd HA.out (by simp [impl_TurnSeen.l0])
       | succ k2 =>
        have H := HA.out
        clear HA
        simp only [impl_TurnSeen.l0] at H
        by_cases c36 : x36_2 < (l0_0.length : Int)
        ·rw [if_pos c36] at H
         have c36b0 : decide (x36_2 < (l0_0.length : Int)) = true := decide_eq_true c36
         clear c36
         by_cases c37 : 0 ≤ x36_2
         ·rw [if_pos c37] at H
          have c37b0 : decide (0 ≤ x36_2) = true := decide_eq_true c37
          clear c37
          by_cases c38 : x36_2 < (l0_0.length : Int)
          ·rw [if_pos c38] at H
           have c38b0 : decide (x36_2 < (l0_0.length : Int)) = true := decide_eq_true c38
           clear c38
           replace H := Option.bind_eq_some_iff.mp H
           obtain ⟨t1176, A390, H⟩ := H
           replace H : (if 0 ≤ x9_2 then (if x9_2 ≤ (wrap64 (x9_2 + t1176)) then (if (wrap64 (x9_2 + t1176)) ≤ (l1_0.length : Int) then (if x36_2 < (x8_2.length : Int) then (impl_TurnSeen.l0 k2 l2 (x8_2.set (x36_2 : Int).toNat ((l1_0.take ((wrap64 (x9_2 + t1176)) : Int).toNat).drop (x9_2 : Int).toNat)) (wrap64 (x9_2 + t1176)) l0_0 (l0_0.length : Int) (wrap64 (x36_2 + 1)) l1_0 l1_1) else (none)) else (none)) else (none)) else (none)) = some (r1, r2, r3) := H
           have A39 := am_ A390
           clear A390
           by_cases c40 : 0 ≤ x9_2
           ·rw [if_pos c40] at H
            have c40b0 := eq_true c40
            have c40b1 : decide (0 ≤ x9_2) = true := decide_eq_true c40
            clear c40
            by_cases c41 : x9_2 ≤ (wrap64 (x9_2 + t1176))
            ·rw [if_pos c41] at H
             have c41b0 := eq_true c41
             have c41b1 : decide (x9_2 ≤ (wrap64 (x9_2 + t1176))) = true := decide_eq_true c41
             by_cases c42 : (wrap64 (x9_2 + t1176)) ≤ (l1_0.length : Int)
             ·rw [if_pos c42] at H
              have c42b0 := eq_true c42
              have c42b1 : decide ((wrap64 (x9_2 + t1176)) ≤ (l1_0.length : Int)) = true := decide_eq_true c42
              obtain ⟨y1177, hy1177⟩ : ∃ y_ : List Int, y_ = ((l1_0.take ((wrap64 (x9_2 + t1176)) : Int).toNat).drop (x9_2 : Int).toNat) := ⟨_, rfl⟩
              replace H : (if x36_2 < (x8_2.length : Int) then (impl_TurnSeen.l0 k2 l2 (x8_2.set (x36_2 : Int).toNat y1177) (wrap64 (x9_2 + t1176)) l0_0 (l0_0.length : Int) (wrap64 (x36_2 + 1)) l1_0 l1_1) else (none)) = some (r1, r2, r3) := by first | (rw [hy1177]; with_reducible exact H) | (have H2_ := (Option.bind_some _ _).symm.trans H; rw [hy1177]; with_reducible exact H2_) | (have H2_ := (Option.bind_some _ _).symm.trans H; with_reducible exact H2_) | with_reducible exact H | (rw [hy1177]; exact H) | exact H
              have Ny1177 := am_ hy1177
              clear hy1177
              by_cases c43 : x36_2 < (x8_2.length : Int)
              ·rw [if_pos c43] at H
               have c43b0 : decide (x36_2 < (x8_2.length : Int)) = true := decide_eq_true c43
               clear c43
               obtain ⟨y1182, hy1182⟩ : ∃ y_ : List (List Int), y_ = (x8_2.set (x36_2 : Int).toNat y1177) := ⟨_, rfl⟩
               replace H : (impl_TurnSeen.l0 k2 l2 y1182 (wrap64 (x9_2 + t1176)) l0_0 (l0_0.length : Int) (wrap64 (x36_2 + 1)) l1_0 l1_1) = some (r1, r2, r3) := by first | (rw [hy1182]; with_reducible exact H) | (have H2_ := (Option.bind_some _ _).symm.trans H; rw [hy1182]; with_reducible exact H2_) | (have H2_ := (Option.bind_some _ _).symm.trans H; with_reducible exact H2_) | with_reducible exact H | (rw [hy1182]; exact H) | exact H
               have Ny1182 := am_ hy1182
               clear hy1182
               have H' := am_ H
               clear H
               have p1175 : 0 ≤ (x36_2 : Int) := of_decide_eq_true z61_2
               have q1175 : x36_2 < (l0_0.length : Int) := of_decide_eq_true z61_2
               obtain ⟨ad1175, A1175_0, c1175_0, e1175, hx1175_0, hl1175_0, hi1175_0⟩ := at_L7 HR0_0.out x36_2 p1175 q1175
               cases e1175
               replace hx1175_0 := (HB.out.cell (World.block_lt_of_cell? w _ hx1175_0)).trans hx1175_0
               have HR1175_0 := am_ hi1175_0
               have HC1175_0 := am_ hl1175_0
               clear hi1175_0 hl1175_0
               replace p1175 := eq_true p1175
               replace q1175 := eq_true q1175
               go_wp2_with (first | ((with_reducible refine gate_callee (f := 91) rfl ?_); refine goesL_ (some 42) rfl rfl Try.func91 (by kernel_rfl) rfl #[.slice A1175_0 (rd_L7 l0_0 x36_2).length c1175_0] rfl (by (try simp only [List.map_toArray, List.map_cons, List.map_nil]); first | done | rfl | (simp only [List.length_drop, List.length_take]; rfl)) ?_; (with_reducible refine (impl_readsOf.calls k2 _ _ (rd_L7 l0_0 x36_2) t1176 _ ?side1 ?side2 A39.out).mono ?_); (case side1 => repeat (first | exact (Kd.C_below HR1175_0.out HB.out) | (with_reducible refine Kd.C_alloc ?_ _) | (with_reducible refine Kd.C_drewN ?_ _) | (with_reducible refine Kd.C_drew ?_))); (case side2 => exact HC1175_0.out); rintro e w45 ⟨rfl, hb⟩; refine ⟨_, rfl, ?_⟩; have n0_ := am_ (Kd.N_below (nu HO_8.out) hb); have n1_ := am_ (Kd.V_below (vu HO_1169000.out) hb); have n2_ := am_ (blk_below (bu BK1167.out) hb); have n3_ := am_ (blk_below (bu BK1168.out) hb); have n4_ := am_ (blk_below (bu BK1169.out) hb); have n5_ := am_ (below_step z61_8 hb); clear HO_8 HO_1169000 BK1167 BK1168 BK1169 HB; have HO_8 := n0_; have HO_1169000 := n1_; have BK1167 := n2_; have BK1168 := n3_; have BK1169 := n4_; have HB := n5_; clear n0_ n1_ n2_ n3_ n4_ n5_; (try clear hb); (try clear hb2); (try clear hk); (try clear hi); have hnb46 := NB1168_1167.out; have hnc46 := NB1167_1168.out; have hnb47 := NB1168_1169.out; have hnc47 := NB1169_1168.out; have hcz48_0 : w45.cell? ⟨gb1168, 0, none⟩ = some (.slice A1_0 l1_0.length c1_0) := (blk_cell BK1168.out 0).trans rfl; have hcz48_1 : w45.cell? ⟨gb1168, 1, none⟩ = some (.slice A1_1 l1_1.length c1_1) := (blk_cell BK1168.out 1).trans rfl; have hfz48_0 := blk_frozen BK1168.out 0; have hfz48_1 := blk_frozen BK1168.out 1; have q49 : ((wrap64 (x9_2 + t1176)) : Int) ≤ ((l1_0.length : Int) : Int) := of_decide_eq_true z61_2; obtain ⟨i049, hi049, _, hsz49, _⟩ := info_parts info3; have hroom49 : l1_0.length ≤ c1_0 := (Kd.V_reads' HO_1169000.out).2.1; have hC49 : Kd.F (Kd.int .i64) _ _ A1_0 l1_0.length l1_0 := (Kd.V_at (base := w.heap.size) HO_1169000.out).2.2; have ql49 : (x9_2 : Int) ≤ ((wrap64 (x9_2 + t1176)) : Int) := of_decide_eq_true z61_2; have q049 : (0 : Int) ≤ (x9_2 : Int) := of_decide_eq_true z61_2; have hcut49 := cut_mid (P := Try.prog) 22 3 .i64 .i64 Try.underlying22 hi049 1 hsz49 A1_0 l1_0.length c1_0 x9_2 (wrap64 (x9_2 + t1176)) q049 ql49 q49 hroom49; have hr49 := Kd.F_mid (lo := (x9_2 : Int).toNat) (hi := ((wrap64 (x9_2 + t1176)) : Int).toNat) (c := c1_0) hC49 (by omega) (by omega) hroom49; obtain ⟨A49, hA49⟩ : ∃ A1, A1 = (if c1_0 = (x9_2 : Int).toNat then A1_0 else (A1_0 : Option Addr).map (·.add ((x9_2 : Int).toNat * 1))) := ⟨_, rfl⟩; obtain ⟨c49, hc49⟩ : ∃ c1, c1 = c1_0 - (x9_2 : Int).toNat := ⟨_, rfl⟩; have hy49 : y1177.length = ((wrap64 (x9_2 + t1176)) : Int).toNat - (x9_2 : Int).toNat := (by rw [Ny1177.out, List.length_drop, List.length_take] <;> omega); rw [show ((l1_0).take ((wrap64 (x9_2 + t1176)) : Int).toNat).drop (x9_2 : Int).toNat = y1177 from Ny1177.out.symm] at hr49; replace hr49 : Kd.F (Kd.int .i64) _ _ A49 y1177.length y1177 := (by rw [hA49]; exact hr49); rw [← hy49, ← hA49, ← hc49] at hcut49; have HO1181 := am_ (show Kd.V (Kd.int .i64) 3 _ w.heap.size _ (.slice A49 y1177.length c49) y1177 from Kd.V_mk (by rw [hy49, hc49]; exact Nat.sub_le_sub_right (Nat.le_trans (by omega) hroom49) _) hr49); have HC1181 := am_ (show y1177.length ≤ c49 from by rw [hy49, hc49]; exact Nat.sub_le_sub_right (Nat.le_trans (by omega) hroom49) _); clear hr49 hC49 hroom49 hi049 hsz49 hc49; have KY49 := am_ hy49; have KA49 := am_ hA49; clear hy49 hA49; replace q49 := eq_true q49; have p44 : 0 ≤ (x36_2 : Int) := of_decide_eq_true z61_2; have q44 : (x36_2 : Int) < ((x8_2.length : Int) : Int) := of_decide_eq_true z61_2; obtain ⟨go44, co44, eo44, gb44, gl44, cl44, HG44⟩ := Kd.N_form HO_8.out (by omega); (first | cases eo44 | (injection eo44 with ea_ en_ ec_; (first | subst ea_ | (injection ea_ with ea_; subst ea_)); subst ec_; clear en_)); have GB44 := am_ gb44; have GG44 := am_ HG44; clear gb44 gl44 HG44; obtain ⟨ce44, hcl44, hM44, hcc44, hfr44⟩ := Kd.N_elem HO_8.out [] (x36_2 : Int) p44 q44; obtain ⟨ua44_0, uc44_0, rfl, ul44_0, ge44_0⟩ := Kd.FK_slice_open hM44; have hx44_0 := hcc44 0 _ rfl; have hf44_0 := hfr44 0; (try simp only [show ((Kd.slice 3 (Kd.int .i64))).sz = 1 from rfl, Nat.mul_one, Nat.add_zero] at hx44_0); (try simp only [show ((Kd.slice 3 (Kd.int .i64))).sz = 1 from rfl, Nat.mul_one, Nat.add_zero] at hf44_0); clear hcl44 hcc44 hfr44 hM44; replace p44 := eq_true p44; replace q44 := eq_true q44; have HX50 := am_ (show Kd.N (Kd.slice 3 (Kd.int .i64)) 22 w45 w.heap.size (fun k_ => (P1_0_ k_ ∨ w.heap.size ≤ k_) ∧ k_ ≠ gb1167 ∧ k_ ≠ gb1168 ∧ k_ ≠ gb1169) (.slice (some ⟨go44, 0, none⟩) x8_2.length co44) x8_2 from (nu HO_8.out)); obtain ⟨ce50, hcl50, hM50, hcc50, hfr50⟩ := Kd.N_elem HX50.out [] (x36_2 : Int) (of_decide_eq_true z61_2) (by have h_ : (x36_2 : Int) < ((x8_2.length : Int) : Int) := of_decide_eq_true z61_2; first | exact h_ | (have e_ := (Kd.N_reads' HO_8.out).1; omega) | simpa using h_); obtain ⟨ua50_0, uc50_0, rfl, ul50_0, ge50_0⟩ := Kd.FK_slice_open hM50; have HP50 := Kd.N_seg HX50.out (x36_2 : Int) (of_decide_eq_true z61_2) (by have h_ : (x36_2 : Int) < ((x8_2.length : Int) : Int) := of_decide_eq_true z61_2; first | exact h_ | (have e_ := (Kd.N_reads' HO_8.out).1; omega) | simpa using h_) (seg := [.slice A49 y1177.length c49]) (j := 0) hcl50 hcc50 (show 1 ≤ 1 from by decide) (x' := y1177) (Kd.FK_slice_mk (Kd.V_reads' (Kd.V_mono (ok' := (fun k_ => ((fun k_ => (P1_0_ k_ ∨ w.heap.size ≤ k_) ∧ k_ ≠ gb1167 ∧ k_ ≠ gb1168 ∧ k_ ≠ gb1169)) k_ ∧ k_ ≠ go44)) (HO1181.out) (fun k_ hk => ⟨⟨hk.1, ⟨hk.2.2.1, ⟨hk.2.2.2.1, hk.2.2.2.2⟩⟩⟩, fun e_ => (hk.2.1) (by rw [e_]; rfl)⟩))).2.1 (Kd.V_F (Kd.V_mono (ok' := (fun k_ => ((fun k_ => (P1_0_ k_ ∨ w.heap.size ≤ k_) ∧ k_ ≠ gb1167 ∧ k_ ≠ gb1168 ∧ k_ ≠ gb1169)) k_ ∧ k_ ≠ go44)) (HO1181.out) (fun k_ hk => ⟨⟨hk.1, ⟨hk.2.2.1, ⟨hk.2.2.2.1, hk.2.2.2.2⟩⟩⟩, fun e_ => (hk.2.1) (by rw [e_]; rfl)⟩)))) (fun _ hk => hk); have hx50_0 := hcc50 0 _ rfl; (try simp only [show ((Kd.slice 3 (Kd.int .i64))).sz = 1 from rfl, Nat.mul_one, Nat.add_zero] at hx50_0); have hf50_0 := hfr50 0; (try simp only [show ((Kd.slice 3 (Kd.int .i64))).sz = 1 from rfl, Nat.mul_one, Nat.add_zero] at hf50_0); clear hcl50 hcc50 hfr50 hM50; (try simp only [show ((Kd.slice 3 (Kd.int .i64))).sz = 1 from rfl, Nat.mul_one, Nat.add_zero] at HP50); (try simp only [show ((Kd.slice 3 (Kd.int .i64))).sz = 1 from rfl, Nat.mul_one, Nat.add_zero] at HP50)) | ((with_reducible refine gate_store (t := 22) (p := 52) rfl ?_); refine store_event (t := 22) (p := 52) (v := ?vo_w51) (w1 := (w45.setCell ⟨go44, (x36_2 : Int).toNat, none⟩ (.slice A49 y1177.length c49))) ?hg ?ho ?hn ?hr ?_; (case ho => rfl); (case hg => rfl); (case hn => rfl); (case hr => first | (go_simp; done) | (go_simp; rfl)); intro w51 hw; have hg : w45.grownBy w51 (some go44) := (by rw [hw]; exact HP50.2); have hp_ : Kd.N (Kd.slice 3 (Kd.int .i64)) 22 w51 w.heap.size (fun k_ => (P1_0_ k_ ∨ w.heap.size ≤ k_) ∧ k_ ≠ gb1167 ∧ k_ ≠ gb1168 ∧ k_ ≠ gb1169) (.slice (some ⟨go44, 0, none⟩) x8_2.length co44) y1182 := (by rw [hw, Ny1182.out]; exact HP50.1); clear HP50; have n0_ := am_ (hp_); have n1_ := am_ (Kd.V_afterv (v := (.slice (some ⟨go44, 0, none⟩) x8_2.length co44)) (v1 := (.slice (some ⟨go44, 0, none⟩) x8_2.length co44)) (ok := (fun k_ => (P1_0_ k_ ∨ w.heap.size ≤ k_) ∧ k_ ≠ gb1167 ∧ k_ ≠ gb1168 ∧ k_ ≠ gb1169)) (vu (Kd.V_mono HO_1169000.out (fun _ hk => ⟨⟨hk.1, ⟨hk.2.2.1, ⟨hk.2.2.2.1, hk.2.2.2.2⟩⟩⟩, hk.2.1⟩))) hg (.inl rfl)); have n2_ := am_ (blk_grown (bu BK1167.out) hg (Kd.N_ne HO_8.out BK1167.out (by decide))); have n3_ := am_ (blk_grown (bu BK1168.out) hg (Kd.N_ne HO_8.out BK1168.out (by decide))); have n4_ := am_ (blk_grown (bu BK1169.out) hg (Kd.N_ne HO_8.out BK1169.out (by decide))); have n5_ := am_ (Kd.V_afterv (v := (.slice (some ⟨go44, 0, none⟩) x8_2.length co44)) (v1 := (.slice (some ⟨go44, 0, none⟩) x8_2.length co44)) (ok := (fun k_ => (P1_0_ k_ ∨ w.heap.size ≤ k_) ∧ k_ ≠ gb1167 ∧ k_ ≠ gb1168 ∧ k_ ≠ gb1169)) (vu (Kd.V_mono HO1181.out (fun _ hk => ⟨⟨hk.1, ⟨hk.2.2.1, ⟨hk.2.2.2.1, hk.2.2.2.2⟩⟩⟩, hk.2.1⟩))) hg (.inl rfl)); have n6_ := am_ (by rw [hw]; exact below_set (HB.out) GB44.out : Below w.heap.size w w51); clear HO_8 HO_1169000 BK1167 BK1168 BK1169 HO1181 HB; have HO_8 := n0_; have HO_1169000 := n1_; have BK1167 := n2_; have BK1168 := n3_; have BK1169 := n4_; have HO1181 := n5_; have HB := n6_; clear n0_ n1_ n2_ n3_ n4_ n5_ n6_; clear hg hw hp_))
               go_roundg k2
               case measure => have := HJ3.out; have := HK2.out; omega
               case rel => exact ⟨(y1182), (wrap64 (x9_2 + t1176)), (wrap64 (x36_2 + 1)), z61_1, z61_1, H', ⟨by have := HJ3.out; have := HK2.out; omega⟩, ⟨nu HO_8.out⟩, ⟨vu (Kd.V_mono HO_1169000.out (fun _ hk => ⟨hk.1.1, ⟨hk.2, ⟨hk.1.2.1, ⟨hk.1.2.2.1, hk.1.2.2.2⟩⟩⟩⟩))⟩, ⟨bu BK1167.out⟩, ⟨bu BK1168.out⟩, ⟨bu BK1169.out⟩, ⟨z61_8⟩⟩
              ·rw [if_neg c43] at H
               exact absurd H (by simp)
             ·rw [if_neg c42] at H
              exact absurd H (by simp)
            ·rw [if_neg c41] at H
             exact absurd H (by simp)
           ·rw [if_neg c40] at H
            exact absurd H (by simp)
          ·rw [if_neg c38] at H
           exact absurd H (by simp)
         ·rw [if_neg c37] at H
          exact absurd H (by simp)
        ·rw [if_neg c36] at H
         have c36b0 : decide (x36_2 < (l0_0.length : Int)) = false := decide_eq_false c36
         clear c36
         replace H := Option.bind_eq_some_iff.mp H
         obtain ⟨t1183, A520, H⟩ := H
         replace H : (impl_TurnSeen.l1 k2 x8_2 l2 (l2.length : Int) 0 ([] : List Int) t1183) = some (r1, r2, r3) := H
         have A52 := am_ A520
         clear A520
         have H' := am_ H
         clear H
         have hnb53 := NB1168_1167.out
         have hnc53 := NB1167_1168.out
         have hnb54 := NB1168_1169.out
         have hnc54 := NB1169_1168.out
         have hcz55_0 : wr.cell? ⟨gb1168, 0, none⟩ = some (.slice A1_0 l1_0.length c1_0) := (blk_cell BK1168.out 0).trans rfl
         have hcz55_1 : wr.cell? ⟨gb1168, 1, none⟩ = some (.slice A1_1 l1_1.length c1_1) := (blk_cell BK1168.out 1).trans rfl
         have hfz55_0 := blk_frozen BK1168.out 0
         have hfz55_1 := blk_frozen BK1168.out 1
         go_wp2_with (first | ((with_reducible refine gate_callee (f := 68) rfl ?_); refine goesL_ (some 59) rfl rfl Try.func68 (by kernel_rfl) rfl #[.slice A1_1 l1_1.length c1_1] rfl (by (try simp only [List.map_toArray, List.map_cons, List.map_nil]); first | done | rfl | (simp only [List.length_drop, List.length_take]; rfl)) ?_; (with_reducible refine (slices_Clone_int_int.calls _ _ l1_1 t1183 _ ?side1 ?side2 A52.out).mono ?_); (case side1 => repeat (first | exact (Kd.C_below HR1_1.out HB.out) | (with_reducible refine Kd.C_alloc ?_ _) | (with_reducible refine Kd.C_drewN ?_ _) | (with_reducible refine Kd.C_drew ?_))); (case side2 => exact HC1_1.out); rintro e w56 ⟨v1184, rfl, ho0, hb⟩; refine ⟨_, rfl, ?_⟩; have n0_ := am_ (Kd.N_elder' (nu HO_8.out) (Kd.R_base ho0) hb); have n1_ := am_ (Kd.V_elder' (vu HO_1169000.out) (Kd.R_base ho0) hb); have n2_ := am_ (Kd.R_lower (Kd.R_newM (M := fun k_ => (w.heap.size ≤ k_)) ho0 (below_size z61_8) (fun k_ h_ => h_)) (below_size z61_8)); have n3_ := am_ (blk_below (bu BK1167.out) hb); have n4_ := am_ (blk_below (bu BK1168.out) hb); have n5_ := am_ (blk_below (bu BK1169.out) hb); have n6_ := am_ (below_step z61_8 hb); clear HO_8 HO_1169000 BK1167 BK1168 BK1169 HB; have HO_8 := n0_; have HO_1169000 := n1_; have HO1185 := n2_; have BK1167 := n3_; have BK1168 := n4_; have BK1169 := n5_; have HB := n6_; clear n0_ n1_ n2_ n3_ n4_ n5_ n6_; (try clear hb); (try clear hb2); (try clear hk); (try clear hi); (try clear ho0); obtain ⟨Ao57, co57, eo57⟩ := Kd.R_slice HO1185.out; subst eo57) | ((with_reducible refine gate_dst (N := 13) rfl ?_); (try (refine gate_guard (by rfl) ?_; dsimp only)); refine box_event ?hg (N := 13) ?hd (cs := #[.slice none 0 0, .slice none 0 0]) (t := 24) ?hr ?_; (case hd => rfl); (case hg => rfl); (case hr => first | (go_simp; done) | (go_simp; rfl)); intro gb1186 hg w58 hbox hb; have n0_ := am_ (Kd.N_below (Kd.N_elderB (nu HO_8.out) gb1186 (Nat.le_of_eq hg.symm)) hb); have n1_ := am_ (Kd.V_below (Kd.V_elderB (vu HO_1169000.out) gb1186 (Nat.le_of_eq hg.symm)) hb); have n2_ := am_ (Kd.R_below (ru HO1185.out) hb); have n3_ := am_ (blk_below (bu BK1167.out) hb); have n4_ := am_ (blk_below (bu BK1168.out) hb); have n5_ := am_ (blk_below (bu BK1169.out) hb); have n6_ := am_ (below_step z61_8 hb); have n7_ := am_ (hbox); have n8_ := am_ (by rw [hg]; exact (below_size z61_8) : w.heap.size ≤ gb1186); have n9_ := am_ (by rw [hg]; exact (below_size z61_8) : w.heap.size ≤ gb1186); have n10_ := am_ (by rw [hg]; exact Nat.ne_of_lt (blk_lt (bu BK1167.out)) : gb1167 ≠ gb1186); have n11_ := am_ (by rw [hg]; exact Nat.ne_of_gt (blk_lt (bu BK1167.out)) : gb1186 ≠ gb1167); have n12_ := am_ (by rw [hg]; exact Nat.ne_of_lt (blk_lt (bu BK1168.out)) : gb1168 ≠ gb1186); have n13_ := am_ (by rw [hg]; exact Nat.ne_of_gt (blk_lt (bu BK1168.out)) : gb1186 ≠ gb1168); have n14_ := am_ (by rw [hg]; exact Nat.ne_of_lt (blk_lt (bu BK1169.out)) : gb1169 ≠ gb1186); have n15_ := am_ (by rw [hg]; exact Nat.ne_of_gt (blk_lt (bu BK1169.out)) : gb1186 ≠ gb1169); clear HO_8 HO_1169000 HO1185 BK1167 BK1168 BK1169 HB; have HO_8 := n0_; have HO_1169000 := n1_; have HO1185 := n2_; have BK1167 := n3_; have BK1168 := n4_; have BK1169 := n5_; have HB := n6_; have BK1186 := n7_; have GW1186 := n8_; have GE1186 := n9_; have NB1167_1186 := n10_; have NB1186_1167 := n11_; have NB1168_1186 := n12_; have NB1186_1168 := n13_; have NB1169_1186 := n14_; have NB1186_1169 := n15_; clear n0_ n1_ n2_ n3_ n4_ n5_ n6_ n7_ n8_ n9_ n10_ n11_ n12_ n13_ n14_ n15_; clear hb hbox hg; have hnb59 := NB1186_1167.out; have hnc59 := NB1167_1186.out; have hnb60 := NB1186_1168.out; have hnc60 := NB1168_1186.out; have hnb61 := NB1186_1169.out; have hnc61 := NB1169_1186.out; have hcz62_0 : w58.cell? ⟨gb1186, 0, none⟩ = some (.slice none 0 0) := (blk_cell BK1186.out 0).trans rfl; have hcz62_1 : w58.cell? ⟨gb1186, 1, none⟩ = some (.slice none 0 0) := (blk_cell BK1186.out 1).trans rfl; have hfz62_0 := blk_frozen BK1186.out 0; have hfz62_1 := blk_frozen BK1186.out 1))
         go_loopg [63] k2 (fun kq v63 w' => ∃ (x63_3 : Int) (x1187000_3 : List Int) (u1187000 : Value), v63 = .int .i64 x63_3 ∧ Aside0 (impl_TurnSeen.l1 kq x8_2 l2 (l2.length : Int) x63_3 x1187000_3 t1183 = some (r1, r2, r3)) ∧ Aside0 (kq ≤ k2) ∧ Aside0 (Kd.N (Kd.slice 3 (Kd.int .i64)) 22 w' w.heap.size (fun k_ => (P1_0_ k_ ∨ w.heap.size ≤ k_) ∧ some k_ ≠ (u1187000 : Value).ownBlock ∧ some k_ ≠ ((.slice Ao57 t1183.length co57) : Value).ownBlock ∧ k_ ≠ gb1167 ∧ k_ ≠ gb1168 ∧ k_ ≠ gb1169 ∧ k_ ≠ gb1186) v1173 x8_2) ∧ Aside0 (Kd.V (Kd.int .i64) 3 w' w.heap.size (fun k_ => (P1_0_ k_ ∨ w.heap.size ≤ k_) ∧ some k_ ≠ (v1173 : Value).ownBlock ∧ some k_ ≠ (u1187000 : Value).ownBlock ∧ some k_ ≠ ((.slice Ao57 t1183.length co57) : Value).ownBlock ∧ k_ ≠ gb1167 ∧ k_ ≠ gb1168 ∧ k_ ≠ gb1169 ∧ k_ ≠ gb1186) (.slice A1_0 l1_0.length c1_0) l1_0) ∧ Aside0 (Kd.R (Kd.int .i64) 3 w' w.heap.size (fun k_ => (w.heap.size ≤ k_) ∧ some k_ ≠ ((.slice Ao57 t1183.length co57) : Value).ownBlock) u1187000 x1187000_3) ∧ Aside0 (Kd.R (Kd.int .i64) 3 w' w.heap.size (fun k_ => (w.heap.size ≤ k_) ∧ some k_ ≠ (u1187000 : Value).ownBlock) (.slice Ao57 t1183.length co57) t1183) ∧ Aside0 (w'.heap[gb1167]? = some (.cells #[(.slice A0_0 l0_0.length c0_0)] 35 (0, 0))) ∧ Aside0 (w'.heap[gb1168]? = some (.cells #[(.slice A1_0 l1_0.length c1_0), (.slice A1_1 l1_1.length c1_1)] 24 (0, 0))) ∧ Aside0 (w'.heap[gb1169]? = some (.cells #[(.slice none 0 0), (.slice none 0 0)] 24 (0, 0))) ∧ Aside0 (w'.heap[gb1186]? = some (.cells #[u1187000, (.slice Ao57 t1183.length co57)] 24 (0, 0))) ∧ Aside0 (Below w.heap.size w w'))
         case atStart => exact ⟨(0), (([] : List Int)), (.slice none 0 0), z61_1, H', ⟨Nat.le_refl _⟩, ⟨nu (Kd.N_mono (Kd.N_far (p := ⟨gb1186, 1, none⟩) (Kd.N_far (p := ⟨gb1186, 0, none⟩) (Kd.N_mono HO_8.out (fun k_ hk => (⟨hk, hk.2⟩ : _ ∧ k_ ≠ gb1186))) (fun _ hk => hk.2) (.slice none 0 0)) (fun _ hk => hk.2) (.slice Ao57 t1183.length co57)) (fun _ hk => ⟨hk.1.1.1.1, ⟨(by simp [Value.ownBlock]), ⟨hk.1.1.2, ⟨hk.1.1.1.2.1, ⟨hk.1.1.1.2.2.1, ⟨hk.1.1.1.2.2.2, hk.1.2⟩⟩⟩⟩⟩⟩))⟩, ⟨vu (Kd.V_mono (Kd.V_far (p := ⟨gb1186, 1, none⟩) (Kd.V_far (p := ⟨gb1186, 0, none⟩) (Kd.V_mono HO_1169000.out (fun k_ hk => (⟨hk, hk.2⟩ : _ ∧ k_ ≠ gb1186))) (fun _ hk => hk.2) (.slice none 0 0)) (fun _ hk => hk.2) (.slice Ao57 t1183.length co57)) (fun _ hk => ⟨hk.1.1.1.1, ⟨hk.1.1.1.2.1, ⟨(by simp [Value.ownBlock]), ⟨hk.1.1.2, ⟨hk.1.1.1.2.2.1, ⟨hk.1.1.1.2.2.2.1, ⟨hk.1.1.1.2.2.2.2, hk.1.2⟩⟩⟩⟩⟩⟩⟩))⟩, ⟨z61_5⟩, ⟨ru (Kd.R_mono (Kd.R_far (p := ⟨gb1186, 1, none⟩) (Kd.R_far (p := ⟨gb1186, 0, none⟩) (Kd.R_types HO1185.out BK1186.out (by decide)) (fun _ hk => hk.2) (.slice none 0 0)) (fun _ hk => hk.2) (.slice Ao57 t1183.length co57)) (fun _ hk => ⟨hk.1.1, (by simp [Value.ownBlock])⟩))⟩, ⟨by (with_reducible repeat (first | refine blk_drewN ?_ _ | refine blk_drew ?_ | refine blk_alloc ?_ _)); refine blk_far ?_ NB1167_1186.out _; (with_reducible repeat (first | refine blk_drewN ?_ _ | refine blk_drew ?_ | refine blk_alloc ?_ _)); refine blk_far ?_ NB1167_1186.out _; (with_reducible repeat (first | refine blk_drewN ?_ _ | refine blk_drew ?_ | refine blk_alloc ?_ _)); exact BK1167.out⟩, ⟨by (with_reducible repeat (first | refine blk_drewN ?_ _ | refine blk_drew ?_ | refine blk_alloc ?_ _)); refine blk_far ?_ NB1168_1186.out _; (with_reducible repeat (first | refine blk_drewN ?_ _ | refine blk_drew ?_ | refine blk_alloc ?_ _)); refine blk_far ?_ NB1168_1186.out _; (with_reducible repeat (first | refine blk_drewN ?_ _ | refine blk_drew ?_ | refine blk_alloc ?_ _)); exact BK1168.out⟩, ⟨by (with_reducible repeat (first | refine blk_drewN ?_ _ | refine blk_drew ?_ | refine blk_alloc ?_ _)); refine blk_far ?_ NB1169_1186.out _; (with_reducible repeat (first | refine blk_drewN ?_ _ | refine blk_drew ?_ | refine blk_alloc ?_ _)); refine blk_far ?_ NB1169_1186.out _; (with_reducible repeat (first | refine blk_drewN ?_ _ | refine blk_drew ?_ | refine blk_alloc ?_ _)); exact BK1169.out⟩, ⟨by (with_reducible repeat (first | refine blk_drewN ?_ _ | refine blk_drew ?_ | refine blk_alloc ?_ _)); refine blk_put (cs := #[.slice none 0 0, .slice none 0 0]) ?_ 1 _ rfl; (with_reducible repeat (first | refine blk_drewN ?_ _ | refine blk_drew ?_ | refine blk_alloc ?_ _)); refine blk_put (cs := #[.slice none 0 0, .slice none 0 0]) ?_ 0 _ rfl; (with_reducible repeat (first | refine blk_drewN ?_ _ | refine blk_drew ?_ | refine blk_alloc ?_ _)); exact BK1186.out⟩, ⟨z61_9⟩⟩
         case round =>
          clear H'
          obtain ⟨x63_3, x1187000_3, u1187000, rfl, HA, HK3, HO_8, HO_1169000, HO_1187000, HO_1187001, BK1167, BK1168, BK1169, BK1186, HB⟩ := hrel
          cases gk with
          | zero => exact absurd HA.out (by simp [impl_TurnSeen.l1])
          | succ k3 =>
           have H := HA.out
           clear HA
           simp only [impl_TurnSeen.l1] at H
           by_cases c63 : x63_3 < (l2.length : Int)
           ·rw [if_pos c63] at H
            have c63b0 : decide (x63_3 < (l2.length : Int)) = true := decide_eq_true c63
            clear c63
            by_cases c64 : 0 ≤ x63_3
            ·rw [if_pos c64] at H
             have c64b0 : decide (0 ≤ x63_3) = true := decide_eq_true c64
             clear c64
             by_cases c65 : x63_3 < (l2.length : Int)
             ·rw [if_pos c65] at H
              have c65b0 : decide (x63_3 < (l2.length : Int)) = true := decide_eq_true c65
              clear c65
              by_cases c66 : 0 ≤ (rd l2 x63_3)
              ·rw [if_pos c66] at H
               have c66b0 : decide (0 ≤ (rd l2 x63_3)) = true := decide_eq_true c66
               clear c66
               by_cases c67 : (rd l2 x63_3) < (x8_2.length : Int)
               ·rw [if_pos c67] at H
                have c67b0 : decide ((rd l2 x63_3) < (x8_2.length : Int)) = true := decide_eq_true c67
                clear c67
                by_cases c68 : x1187000_3.length + (rd_L4 x8_2 (rd l2 x63_3)).length < 17592186044416
                ·rw [if_pos c68] at H
                 have LMc68 := am_ c68
                 clear c68
                 obtain ⟨y1189, hy1189⟩ : ∃ y_ : List Int, y_ = (x1187000_3 ++ (rd_L4 x8_2 (rd l2 x63_3))) := ⟨_, rfl⟩
                 replace H : (impl_TurnSeen.l1 k3 x8_2 l2 (l2.length : Int) (wrap64 (x63_3 + 1)) y1189 t1183) = some (r1, r2, r3) := by first | (rw [hy1189]; with_reducible exact H) | (have H2_ := (Option.bind_some _ _).symm.trans H; rw [hy1189]; with_reducible exact H2_) | (have H2_ := (Option.bind_some _ _).symm.trans H; with_reducible exact H2_) | with_reducible exact H | (rw [hy1189]; exact H) | exact H
                 have Ny1189 := am_ hy1189
                 clear hy1189
                 have H' := am_ H
                 clear H
                 have p1187 : 0 ≤ (x63_3 : Int) := of_decide_eq_true z61_2
                 have q1187 : x63_3 < (l2.length : Int) := of_decide_eq_true z61_2
                 obtain ⟨ad1187, e1187, hx1187_0⟩ := Kd.at_int HR2.out x63_3 p1187 q1187
                 cases e1187
                 replace hx1187_0 := (HB.out.cell (World.block_lt_of_cell? w _ hx1187_0)).trans hx1187_0
                 replace p1187 := eq_true p1187
                 replace q1187 := eq_true q1187
                 try go_wp2
                 have n0_ := am_ (Kd.N_drew HO_8.out)
                 have n1_ := am_ (Kd.V_drew HO_1169000.out)
                 have n2_ := am_ (Kd.R_drew HO_1187000.out)
                 have n3_ := am_ (Kd.R_drew HO_1187001.out)
                 have n4_ := am_ (blk_drew BK1167.out)
                 have n5_ := am_ (blk_drew BK1168.out)
                 have n6_ := am_ (blk_drew BK1169.out)
                 have n7_ := am_ (blk_drew BK1186.out)
                 have n8_ := am_ (below_drew1 HB.out)
                 clear HO_8 HO_1169000 HO_1187000 HO_1187001 BK1167 BK1168 BK1169 BK1186 HB
                 have HO_8 := n0_
                 have HO_1169000 := n1_
                 have HO_1187000 := n2_
                 have HO_1187001 := n3_
                 have BK1167 := n4_
                 have BK1168 := n5_
                 have BK1169 := n6_
                 have BK1186 := n7_
                 have HB := n8_
                 clear n0_ n1_ n2_ n3_ n4_ n5_ n6_ n7_ n8_
                 obtain ⟨Ao70, co70, eo70⟩ := Kd.N_slice HO_8.out
                 (first | subst eo70 | (injection eo70 with f1_ f2_ f3_; have f4_ := f1_.symm; have f5_ := f3_.symm; clear f1_ f2_ f3_; subst f4_; subst f5_))
                 have p1188 : 0 ≤ ((rd l2 x63_3) : Int) := of_decide_eq_true z61_2
                 have q1188 : (rd l2 x63_3) < (x8_2.length : Int) := of_decide_eq_true z61_2
                 obtain ⟨ad1188, A1188_0, c1188_0, e1188, hx1188_0, hl1188_0, hi1188_0⟩ := at_L4 (Kd.N_reads' HO_8.out).2.2 (rd l2 x63_3) p1188 q1188
                 cases e1188
                 obtain ⟨ce1188, hce1188, hMe1188, hcc1188⟩ := Kd.N_get HO_8.out [] (rd l2 x63_3) p1188 (by first | exact q1188 | exact of_decide_eq_true z61_2 | (have e_ := (Kd.N_reads' HO_8.out).1; omega))
                 obtain ⟨ua1188_0, uc1188_0, rfl, ul1188_0, ge1188_0⟩ := Kd.FK_slice_open hMe1188
                 have hv1188_0 := hcc1188 0 _ rfl
                 rw [Nat.add_zero, show ((Kd.slice 3 (Kd.int .i64))).sz = 1 from rfl, Nat.mul_one] at hv1188_0
                 replace hv1188_0 := Option.some.inj (hv1188_0.symm.trans hx1188_0)
                 injection hv1188_0 with hva_ hvn_ hvc_
                 rw [hva_] at ge1188_0
                 rw [hvc_] at ul1188_0
                 have HL1188_0 := am_ (show Kd.V (Kd.int .i64) 3 _ w.heap.size _ _ (rd_L4 x8_2 (rd l2 x63_3)) from Kd.V_mk ul1188_0 ge1188_0)
                 clear hva_ hvn_ hvc_ ge1188_0 ul1188_0 hcc1188 hce1188
                 have HR1188_0 := am_ hi1188_0
                 have HC1188_0 := am_ hl1188_0
                 clear hi1188_0 hl1188_0
                 replace p1188 := eq_true p1188
                 replace q1188 := eq_true q1188
                 refine start_ (n := 9) (S := fun w' => w'.cell? ⟨gb1186, 0, none⟩ = some (u1187000) ∧ w'.cell? ⟨gb1186, 1, none⟩ = some (.slice Ao57 t1183.length co57) ∧ w'.cell? (ad1188.add ((rd l2 x63_3)).toNat) = some (.slice A1188_0 (rd_L4 x8_2 (rd l2 x63_3)).length c1188_0)) (ds := [6, 8]) #[false, false, false, false, false, false, false, false, false] (by kernel_rfl) rfl rfl ⟨(blk_cell BK1186.out 0).trans rfl, (blk_cell BK1186.out 1).trans rfl, hx1188_0⟩ (fun hHeld => ?_); refine with_tabW impl_TurnSeen.tab16 impl_TurnSeen.bits16 (fun HT_ HW_ => ?_)
                 generalize wr.drew = w69 at HO_8 HO_1169000 HO_1187000 HO_1187001 BK1167 BK1168 BK1169 BK1186 HB HL1188_0 HR1188_0 hx1188_0 hHeld ⊢
                 refine pure_ (i := 0) (N := some 67) (v := ?_) (a' := ?_) #[true, false, false, false, false, false, false, false, false] rfl rfl (any_of HT_.out (by kernel_rfl)) (fun _ _ _ h => h) (Or.inl ⟨by rfl, ?_⟩) ?_ ?_
                 rotate_left
                 ·intro w'
                  go_simp
                  with_reducible rfl
                 rotate_left
                 ·simp only [Act.put, List.setIfInBounds_toArray, List.set_cons_zero, List.set_cons_succ, i64_w, i32_w]
                  rfl
                 refine pure_ (i := 2) (N := some 69) (v := ?_) (a' := ?_) #[true, false, true, false, false, false, false, false, false] rfl rfl (any_of HT_.out (by kernel_rfl)) (fun _ _ _ h => h) (Or.inl ⟨by rfl, ?_⟩) ?_ ?_
                 rotate_left
                 ·intro w'
                  go_simp
                  with_reducible rfl
                 rotate_left
                 ·simp only [Act.put, List.setIfInBounds_toArray, List.set_cons_zero, List.set_cons_succ, i64_w, i32_w]
                  rfl
                 refine pure_ (i := 3) (N := some 70) (v := ?_) (a' := ?_) #[true, false, true, true, false, false, false, false, false] rfl rfl (any_of HT_.out (by kernel_rfl)) (fun _ _ _ h => h) (Or.inl ⟨by rfl, ?_⟩) ?_ ?_
                 rotate_left
                 ·intro w'
                  go_simp
                  with_reducible rfl
                 rotate_left
                 ·simp only [Act.put, List.setIfInBounds_toArray, List.set_cons_zero, List.set_cons_succ, i64_w, i32_w]
                  rfl
                 refine pure_ (i := 4) (N := some 71) (v := ?_) (a' := ?_) #[true, false, true, true, true, false, false, false, false] rfl rfl (any_of HT_.out (by kernel_rfl)) (fun _ _ _ h => h) (Or.inl ⟨by rfl, ?_⟩) ?_ ?_
                 rotate_left
                 ·intro w'
                  go_simp
                  with_reducible rfl
                 rotate_left
                 ·simp only [Act.put, List.setIfInBounds_toArray, List.set_cons_zero, List.set_cons_succ, i64_w, i32_w]
                  rfl
                 refine take_ (i := 1) (N := some 68) (v := ?_) (a' := ?_) #[true, true, true, true, true, false, false, false, false] rfl rfl (take_ofW HT_.out HW_.out (by kernel_rfl)) (fun _ _ _ h => h) (Or.inl ⟨by rfl, ?_⟩) hHeld ?_ ?_
                 rotate_left
                 ·rintro w' ⟨s0, s1, s2⟩
                  go_simp
                  with_reducible rfl
                 rotate_left
                 ·simp only [Act.put, List.setIfInBounds_toArray, List.set_cons_zero, List.set_cons_succ, i64_w, i32_w]
                  rfl
                 refine take_ (i := 5) (N := some 72) (v := ?_) (a' := ?_) #[true, true, true, true, true, true, false, false, false] rfl rfl (take_ofW HT_.out HW_.out (by kernel_rfl)) (fun _ _ _ h => h) (Or.inl ⟨by rfl, ?_⟩) hHeld ?_ ?_
                 rotate_left
                 ·rintro w' ⟨s0, s1, s2⟩
                  go_simp
                  with_reducible rfl
                 rotate_left
                 ·simp only [Act.put, List.setIfInBounds_toArray, List.set_cons_zero, List.set_cons_succ, i64_w, i32_w]
                  rfl
                 refine last_ (i := 6) (N := some 73) #[true, true, true, true, true, true, true, false, false] rfl rfl (one_of HT_.out (by kernel_rfl)) (by decide) (fun K hK => ?_)
                 refine Kd.R_append_rows_step (Kd.int .i64) (w0 := w) w.heap.size (by rfl) (.tmp 68) (.tmp 72) 22 3 (.int .i64 0) 8 rfl Try.underlying22 info3 rfl (by decide) (by omega) u1187000 x1187000_3 (rd_L4 x8_2 (rd l2 x63_3)) _ _ _ (fun k_ => (w.heap.size ≤ k_) ∧ some k_ ≠ (.slice Ao57 t1183.length co57 : Value).ownBlock) (fun _ => False) rfl rfl ?aO ?aR (fun _ _ h => h) (fun _ h => h.elim) ?aF ?aB ?aS ?aL ?_
                 (case aR => repeat (first | exact (by repeat (first | (with_reducible exact HR1188_0.out) | (with_reducible refine Kd.C_alloc ?_ _) | (with_reducible refine Kd.C_drewN ?_ _) | (with_reducible refine Kd.C_drew ?_) | exact HR1188_0.out)) | (with_reducible refine Kd.C_alloc ?_ _) | (with_reducible refine Kd.C_drewN ?_ _) | (with_reducible refine Kd.C_drew ?_)))
                 (case aB => exact z61_9)
                 (case aF => exact (fun k_ hk => ⟨(Nat.le_trans (below_size z61_9) hk), Kd.fresh' (Kd.R_lt (ru HO_1187001.out)) k_ hk⟩))
                 (case aO => exact (ru HO_1187000.out))
                 (case aS => exact (below_size z61_9))
                 (case aL => have := LMc68.out; omega)
                 intro v1190 w71 ho hb hg hat
                 rw [← Ny1189.out] at ho
                 have n0_ := am_ (Kd.N_afterv (ok := (fun k_ => (P1_0_ k_ ∨ w.heap.size ≤ k_) ∧ some k_ ≠ (.slice Ao57 t1183.length co57 : Value).ownBlock ∧ k_ ≠ gb1167 ∧ k_ ≠ gb1168 ∧ k_ ≠ gb1169 ∧ k_ ≠ gb1186)) (nu (Kd.N_mono HO_8.out (fun _ hk => ⟨⟨hk.1, ⟨hk.2.2.1, ⟨hk.2.2.2.1, ⟨hk.2.2.2.2.1, ⟨hk.2.2.2.2.2.1, hk.2.2.2.2.2.2⟩⟩⟩⟩⟩, hk.2.1⟩))) hg hat)
                 have n1_ := am_ (Kd.V_afterv (ok := (fun k_ => (P1_0_ k_ ∨ w.heap.size ≤ k_) ∧ some k_ ≠ (.slice (some ad1188) x8_2.length co70 : Value).ownBlock ∧ some k_ ≠ (.slice Ao57 t1183.length co57 : Value).ownBlock ∧ k_ ≠ gb1167 ∧ k_ ≠ gb1168 ∧ k_ ≠ gb1169 ∧ k_ ≠ gb1186)) (vu (Kd.V_mono HO_1169000.out (fun _ hk => ⟨⟨hk.1, ⟨hk.2.1, ⟨hk.2.2.2.1, ⟨hk.2.2.2.2.1, ⟨hk.2.2.2.2.2.1, ⟨hk.2.2.2.2.2.2.1, hk.2.2.2.2.2.2.2⟩⟩⟩⟩⟩⟩, hk.2.2.1⟩))) hg hat)
                 have n2_ := am_ (Kd.R_after (ok := (fun k_ => (w.heap.size ≤ k_))) (ru HO_1187001.out) hg hat)
                 have n3_ := am_ (blk_grown (bu BK1167.out) hg (Kd.R_ne HO_1187000.out BK1167.out (by decide)))
                 have n4_ := am_ (blk_grown (bu BK1168.out) hg (Kd.R_ne HO_1187000.out BK1168.out (by decide)))
                 have n5_ := am_ (blk_grown (bu BK1169.out) hg (Kd.R_ne HO_1187000.out BK1169.out (by decide)))
                 have n6_ := am_ (blk_grown (bu BK1186.out) hg (Kd.R_ne HO_1187000.out BK1186.out (by decide)))
                 have n7_ := am_ (Kd.V_afterv (ok := (fun k_ => (P1_0_ k_ ∨ w.heap.size ≤ k_) ∧ some k_ ≠ (.slice (some ad1188) x8_2.length co70 : Value).ownBlock ∧ some k_ ≠ (.slice Ao57 t1183.length co57 : Value).ownBlock ∧ k_ ≠ gb1167 ∧ k_ ≠ gb1168 ∧ k_ ≠ gb1169 ∧ k_ ≠ gb1186)) (vu (Kd.V_mono HL1188_0.out (fun _ hk => ⟨⟨hk.1.1, ⟨hk.2, ⟨hk.1.2.2.1, ⟨hk.1.2.2.2.1, ⟨hk.1.2.2.2.2.1, ⟨hk.1.2.2.2.2.2.1, hk.1.2.2.2.2.2.2⟩⟩⟩⟩⟩⟩, hk.1.2.1⟩))) hg hat)
                 have n8_ := am_ (hb)
                 have n9_ := am_ (ho)
                 clear HO_8 HO_1169000 HO_1187001 BK1167 BK1168 BK1169 BK1186 HL1188_0 HB HO_1187000
                 have HO_8 := n0_
                 have HO_1169000 := n1_
                 have HO_1187001 := n2_
                 have BK1167 := n3_
                 have BK1168 := n4_
                 have BK1169 := n5_
                 have BK1186 := n6_
                 have HL1188_0 := n7_
                 have HB := n8_
                 have HO1191 := n9_
                 clear n0_ n1_ n2_ n3_ n4_ n5_ n6_ n7_ n8_ n9_ ho hb hg hat
                 obtain ⟨Ao72, co72, eo72⟩ := Kd.R_slice HO1191.out
                 (first | subst eo72 | (injection eo72 with f1_ f2_ f3_; have f4_ := f1_.symm; have f5_ := f3_.symm; clear f1_ f2_ f3_; subst f4_; subst f5_))
                 refine hK.out _ _ ?_
                 clear hK K
                 refine norm_ (a' := ?_) ?_ ?_
                 rotate_left
                 ·show Act.put _ (some 73) _ = _
                  simp only [Act.put, List.setIfInBounds_toArray, List.set_cons_zero, List.set_cons_succ, i64_w, i32_w]
                  rfl
                 refine pure_ (i := 7) (N := some 74) (v := ?_) (a' := ?_) #[true, true, true, true, true, true, true, true, false] rfl rfl (any_of HT_.out (by kernel_rfl)) (fun _ _ _ h => h) (Or.inl ⟨by rfl, ?_⟩) ?_ ?_
                 rotate_left
                 ·intro w'
                  go_simp
                  with_reducible rfl
                 rotate_left
                 ·simp only [Act.put, List.setIfInBounds_toArray, List.set_cons_zero, List.set_cons_succ, i64_w, i32_w]
                  rfl
                 refine last_ (i := 8) (N := none) #[true, true, true, true, true, true, true, true, true] rfl rfl (one_of HT_.out (by kernel_rfl)) (by decide) (fun K hK => ?_)
                 have hs73 : w71.cell? ⟨gb1186, 0, none⟩ = some (u1187000) := (blk_cell BK1186.out 0).trans rfl
                 have hfs73 := blk_frozen BK1186.out 0
                 have hns73_0 := NB1167_1186.out
                 have hns73_1 := NB1168_1186.out
                 have hns73_2 := NB1169_1186.out
                 have hms73_0 := NB1186_1167.out
                 have hms73_1 := NB1186_1168.out
                 have hms73_2 := NB1186_1169.out
                 refine skip_ (w1 := ?_) (by rfl) rfl ?_ ?_
                 rotate_left
                 ·go_simp
                  rfl
                 refine hK.out _ _ ?_
                 clear hK K
                 refine done_ (done_of HT_.out (by kernel_rfl)) ?_
                 try go_wp2
                 go_roundg k3
                 case measure => have := HJ3.out; have := HK2.out; have := HK3.out; omega
                 case rel => exact ⟨(wrap64 (x63_3 + 1)), (y1189), (.slice Ao72 y1189.length co72), z61_1, H', ⟨by have := HJ3.out; have := HK2.out; have := HK3.out; omega⟩, ⟨nu (Kd.N_mono (Kd.N_far (p := ⟨gb1186, 0, none⟩) (Kd.N_mono HO_8.out (fun k_ hk => (⟨hk, hk.1.2.2.2.2.2⟩ : _ ∧ k_ ≠ gb1186))) (fun _ hk => hk.2) (.slice Ao72 y1189.length co72)) (fun _ hk => ⟨hk.1.1.1, ⟨hk.1.2, ⟨hk.1.1.2.1, ⟨hk.1.1.2.2.1, ⟨hk.1.1.2.2.2.1, ⟨hk.1.1.2.2.2.2.1, hk.1.1.2.2.2.2.2⟩⟩⟩⟩⟩⟩))⟩, ⟨vu (Kd.V_mono (Kd.V_far (p := ⟨gb1186, 0, none⟩) (Kd.V_mono HO_1169000.out (fun k_ hk => (⟨hk, hk.1.2.2.2.2.2.2⟩ : _ ∧ k_ ≠ gb1186))) (fun _ hk => hk.2) (.slice Ao72 y1189.length co72)) (fun _ hk => ⟨hk.1.1.1, ⟨hk.1.1.2.1, ⟨hk.1.2, ⟨hk.1.1.2.2.1, ⟨hk.1.1.2.2.2.1, ⟨hk.1.1.2.2.2.2.1, ⟨hk.1.1.2.2.2.2.2.1, hk.1.1.2.2.2.2.2.2⟩⟩⟩⟩⟩⟩⟩))⟩, ⟨ru (Kd.R_mono (Kd.R_far (p := ⟨gb1186, 0, none⟩) (Kd.R_types HO1191.out BK1186.out (by decide)) (fun _ hk => hk.2) (.slice Ao72 y1189.length co72)) (fun _ hk => ⟨hk.1.1, hk.1.2⟩))⟩, ⟨ru (Kd.R_mono (Kd.R_far (p := ⟨gb1186, 0, none⟩) (Kd.R_types HO_1187001.out BK1186.out (by decide)) (fun _ hk => hk.2) (.slice Ao72 y1189.length co72)) (fun _ hk => ⟨hk.1.1, hk.1.2⟩))⟩, ⟨by (with_reducible repeat (first | refine blk_drewN ?_ _ | refine blk_drew ?_ | refine blk_alloc ?_ _)); refine blk_far ?_ NB1167_1186.out _; (with_reducible repeat (first | refine blk_drewN ?_ _ | refine blk_drew ?_ | refine blk_alloc ?_ _)); exact BK1167.out⟩, ⟨by (with_reducible repeat (first | refine blk_drewN ?_ _ | refine blk_drew ?_ | refine blk_alloc ?_ _)); refine blk_far ?_ NB1168_1186.out _; (with_reducible repeat (first | refine blk_drewN ?_ _ | refine blk_drew ?_ | refine blk_alloc ?_ _)); exact BK1168.out⟩, ⟨by (with_reducible repeat (first | refine blk_drewN ?_ _ | refine blk_drew ?_ | refine blk_alloc ?_ _)); refine blk_far ?_ NB1169_1186.out _; (with_reducible repeat (first | refine blk_drewN ?_ _ | refine blk_drew ?_ | refine blk_alloc ?_ _)); exact BK1169.out⟩, ⟨by (with_reducible repeat (first | refine blk_drewN ?_ _ | refine blk_drew ?_ | refine blk_alloc ?_ _)); refine blk_put (cs := #[u1187000, .slice Ao57 t1183.length co57]) ?_ 0 _ rfl; (with_reducible repeat (first | refine blk_drewN ?_ _ | refine blk_drew ?_ | refine blk_alloc ?_ _)); exact BK1186.out⟩, ⟨z61_9⟩⟩
                ·rw [if_neg c68] at H
                 exact absurd H (by simp)
               ·rw [if_neg c67] at H
                exact absurd H (by simp)
              ·rw [if_neg c66] at H
               exact absurd H (by simp)
             ·rw [if_neg c65] at H
              exact absurd H (by simp)
            ·rw [if_neg c64] at H
             exact absurd H (by simp)
           ·rw [if_neg c63] at H
            have c63b0 : decide (x63_3 < (l2.length : Int)) = false := decide_eq_false c63
            clear c63
            simp only [Option.some.injEq, Prod.mk.injEq] at H
            obtain ⟨rfl, rfl, rfl⟩ := H
            have hnb74 := NB1186_1167.out
            have hnc74 := NB1167_1186.out
            have hnb75 := NB1186_1168.out
            have hnc75 := NB1168_1186.out
            have hnb76 := NB1186_1169.out
            have hnc76 := NB1169_1186.out
            have hcz77_0 : wr.cell? ⟨gb1186, 0, none⟩ = some (u1187000) := (blk_cell BK1186.out 0).trans rfl
            have hcz77_1 : wr.cell? ⟨gb1186, 1, none⟩ = some (.slice Ao57 t1183.length co57) := (blk_cell BK1186.out 1).trans rfl
            have hfz77_0 := blk_frozen BK1186.out 0
            have hfz77_1 := blk_frozen BK1186.out 1
            obtain ⟨Ao78, co78, eo78⟩ := Kd.R_slice HO_1187000.out
            subst eo78
            have hnb79 := NB1169_1167.out
            have hnc79 := NB1167_1169.out
            have hnb80 := NB1169_1168.out
            have hnc80 := NB1168_1169.out
            have hcz81_0 : wr.cell? ⟨gb1169, 0, none⟩ = some (.slice none 0 0) := (blk_cell BK1169.out 0).trans rfl
            have hcz81_1 : wr.cell? ⟨gb1169, 1, none⟩ = some (.slice none 0 0) := (blk_cell BK1169.out 1).trans rfl
            have hfz81_0 := blk_frozen BK1169.out 0
            have hfz81_1 := blk_frozen BK1169.out 1
            go_wp2
            refine bodyPost_ret (results_ct rfl _ _ gb1169 24 #[.slice Ao78 x1187000_3.length co78, .slice Ao57 t1183.length co57] (0, 0) _ rfl (by (with_reducible repeat (first | refine blk_drewN ?_ _ | refine blk_drew ?_ | refine blk_alloc ?_ _)); refine blk_put (cs := #[.slice Ao78 x1187000_3.length co78, .slice none 0 0]) ?_ 1 _ rfl; (with_reducible repeat (first | refine blk_drewN ?_ _ | refine blk_drew ?_ | refine blk_alloc ?_ _)); refine blk_put (cs := #[.slice none 0 0, .slice none 0 0]) ?_ 0 _ rfl; (with_reducible repeat (first | refine blk_drewN ?_ _ | refine blk_drew ?_ | refine blk_alloc ?_ _)); exact BK1169.out) Try.underlying24 rfl (by kernel_rfl)) rfl ?_
            exact ⟨_, _, z61_3, ru (Kd.R_mono (Kd.R_far (p := ⟨gb1169, 1, none⟩) (Kd.R_far (p := ⟨gb1169, 0, none⟩) (Kd.R_types HO_1187000.out BK1169.out (by decide)) (fun _ hk => hk.2) (.slice Ao78 x1187000_3.length co78)) (fun _ hk => hk.2) (.slice Ao57 t1183.length co57)) (fun _ hk => ⟨hk.1.1, hk.1.2⟩)), ru (Kd.R_mono (Kd.R_far (p := ⟨gb1169, 1, none⟩) (Kd.R_far (p := ⟨gb1169, 0, none⟩) (Kd.R_types HO_1187001.out BK1169.out (by decide)) (fun _ hk => hk.2) (.slice Ao78 x1187000_3.length co78)) (fun _ hk => hk.2) (.slice Ao57 t1183.length co57)) (fun _ hk => ⟨hk.1.1, hk.1.2⟩)), z61_9⟩
     ·rw [if_neg c29] at H
      exact absurd H (by simp)
    ·rw [if_neg c28] at H
     exact absurd H (by simp)

end Go.Proofs.Ytefkbmhkhpekjaa.PB

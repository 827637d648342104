-- Written by this session's wip/myprint.py (the kit's print.py, with hand-written chunks). Lean checks it.
import Derived.Test.YtefkbmhkhpekjaaPBx0
import Derived.Test.YtefkbmhkhpekjaaPBx114
import Derived.Test.YtefkbmhkhpekjaaPBx116
namespace Go.Proofs.Ytefkbmhkhpekjaa.PB
open Go.RowKit Go.Proofs.YtefkbmhkhpekjaaW.PrintWords Go.Proofs.YtefkbmhkhpekjaaW.PrintLast Go.Proofs.YtefkbmhkhpekjaaW.PrintMore
attribute [local go_sem] max2_int min2_int max_two min_two max_three min_three max_four min_four   -- for this text's walks alone
open Go.Proofs.YtefkbmhkhpekjaaMine
set_option linter.unusedVariables false
set_option linter.unusedSimpArgs false

theorem z77_1 {p : Prop} (h : p := by first | rfl | (simp; done) | (simp [*]; done)) : p := h
theorem z77_2 {p : Prop} (h : p := by first | rfl | (simp [errW_none, errW_some] <;> rfl) | (simp [*, errW_none, errW_some] <;> rfl)) : p := h
theorem z77_3 {p : Prop} (h : p := by repeat (first | (with_reducible first | exact HB.out | apply below_alloc | apply pw_below_drewN | apply below_drew1) | exact HB.out)) : p := h
theorem z77_4 {p : Prop} (h : p := by repeat (first | (with_reducible first | exact HB.out | apply below_alloc | apply pw_below_drewN | apply below_drew1 | refine below_set ?_ GE368.out) | exact HB.out)) : p := h
theorem z77_5 {p : Prop} (h : p := by (with_reducible repeat (first | refine blk_drewN ?_ _ | refine blk_drew ?_ | refine blk_alloc ?_ _)); refine blk_put (cs := #[.int .i64 ((rd_T85 l0 x10_1).f0), .int .i64 ((rd_T85 l0 x10_1).f1), .int .i64 0]) ?_ 2 _ rfl; (with_reducible repeat (first | refine blk_drewN ?_ _ | refine blk_drew ?_ | refine blk_alloc ?_ _)); refine blk_put (cs := #[.int .i64 ((rd_T85 l0 x10_1).f0), .int .i64 0, .int .i64 0]) ?_ 1 _ rfl; (with_reducible repeat (first | refine blk_drewN ?_ _ | refine blk_drew ?_ | refine blk_alloc ?_ _)); refine blk_put (cs := #[.int .i64 0, .int .i64 0, .int .i64 0]) ?_ 0 _ rfl; (with_reducible repeat (first | refine blk_drewN ?_ _ | refine blk_drew ?_ | refine blk_alloc ?_ _)); exact BK368.out) : p := h
/-! ### impl_threadOk: function 77 -/
mutual
def impl_threadOk.l0 : Nat → List (S85) → Bool → Bool → List (S85) → Int → Int → Option (Bool)
  | 0, _, _, _, _, _, _ => none
  | k + 1, x0, x3, x4, x8, x9, x10 => if x10 < x9 then (if 0 ≤ x10 then (if x10 < (x8.length : Int) then (if ((rd_T85 x8 x10).f0) = 3 then (if x3 = true then (if x4 = true then (if ((rd_T85 x8 x10).f0) = 7 then (impl_threadOk.j1 k x0 x3 x4 true x8 x9 x10 ((rd_T85 x8 x10).f0) ((rd_T85 x8 x10).f1) ((rd_T85 x8 x10).f2)) else (if ((rd_T85 x8 x10).f0) = 9 then (impl_threadOk.j1 k x0 x3 x4 true x8 x9 x10 ((rd_T85 x8 x10).f0) ((rd_T85 x8 x10).f1) ((rd_T85 x8 x10).f2)) else (impl_threadOk.j1 k x0 x3 x4 false x8 x9 x10 ((rd_T85 x8 x10).f0) ((rd_T85 x8 x10).f1) ((rd_T85 x8 x10).f2)))) else (impl_threadOk.j1 k x0 x3 x4 (((rd_T85 x8 x10).f0) == 8) x8 x9 x10 ((rd_T85 x8 x10).f0) ((rd_T85 x8 x10).f1) ((rd_T85 x8 x10).f2))) else (impl_threadOk.j1 k x0 x3 x4 true x8 x9 x10 ((rd_T85 x8 x10).f0) ((rd_T85 x8 x10).f1) ((rd_T85 x8 x10).f2))) else (if x4 = true then (if ((rd_T85 x8 x10).f0) = 7 then (impl_threadOk.j1 k x0 x3 x4 true x8 x9 x10 ((rd_T85 x8 x10).f0) ((rd_T85 x8 x10).f1) ((rd_T85 x8 x10).f2)) else (if ((rd_T85 x8 x10).f0) = 9 then (impl_threadOk.j1 k x0 x3 x4 true x8 x9 x10 ((rd_T85 x8 x10).f0) ((rd_T85 x8 x10).f1) ((rd_T85 x8 x10).f2)) else (impl_threadOk.j1 k x0 x3 x4 false x8 x9 x10 ((rd_T85 x8 x10).f0) ((rd_T85 x8 x10).f1) ((rd_T85 x8 x10).f2)))) else (impl_threadOk.j1 k x0 x3 x4 (((rd_T85 x8 x10).f0) == 8) x8 x9 x10 ((rd_T85 x8 x10).f0) ((rd_T85 x8 x10).f1) ((rd_T85 x8 x10).f2)))) else (none)) else (none)) else (if x4 = true then (some false) else (some (decide ((x0.length : Int) ≤ 7))))
def impl_threadOk.j1 : Nat → List (S85) → Bool → Bool → Bool → List (S85) → Int → Int → Int → Int → Int → Option (Bool)
  | 0, _, _, _, _, _, _, _, _, _, _ => none
  | k + 1, x0, x3, x4, x7, x8, x9, x10, x00, x01, x02 => (impl_Do_formed.f k x00 x01 x02).bind fun t369 => (if t369 = true then (if x7 = true then (some false) else (if x3 = true then (if x00 = 7 then (impl_threadOk.l0 k x0 true true x8 x9 (wrap64 (x10 + 1))) else (if x4 = true then (impl_threadOk.l0 k x0 true (x00 != 8) x8 x9 (wrap64 (x10 + 1))) else (impl_threadOk.l0 k x0 true false x8 x9 (wrap64 (x10 + 1))))) else ((impl_Do_reads.f x00 x01 x02).bind fun t370 => (if x00 = 7 then (impl_threadOk.l0 k x0 t370 true x8 x9 (wrap64 (x10 + 1))) else (if x4 = true then (impl_threadOk.l0 k x0 t370 (x00 != 8) x8 x9 (wrap64 (x10 + 1))) else (impl_threadOk.l0 k x0 t370 false x8 x9 (wrap64 (x10 + 1)))))))) else (some false))
end
def impl_threadOk.f (k : Nat) (l0 : List (S85)) : Option (Bool) := impl_threadOk.l0 k l0 false false l0 (l0.length : Int) 0
set_option maxHeartbeats 8000000 in
set_option maxRecDepth 100000 in
theorem impl_threadOk.calls (k : Nat) (A0 : Option Addr) (c0 : Nat) (l0 : List (S85)) (r : Bool) (w : World) (hr0 : Kd.C k85 w A0 l0.length l0) (hc0 : l0.length ≤ c0) (h : impl_threadOk.f k l0 = some r) :
  Calls Try.prog 77 #[.slice A0 l0.length c0] w fun e w' => e = .returned (.bool r) ∧ Below w.heap.size w w' := by
 have hu85 := Try.underlying85
 have HR0 := am_ hr0
 have HC0 := am_ hc0
 clear hr0 hc0
 have HB := am_ (Below.refl w.heap.size w)
 have H : (impl_threadOk.l0 k l0 false false l0 (l0.length : Int) 0) = some r := h
 clear h
 have H' := am_ H
 clear H
 go_enter Try.func77, Try.ntmps77
 go_wp2
 go_loopg [3, 4, 10] k (fun kq v3 v4 v10 w' => ∃ (x3_1 : Bool) (x4_1 : Bool) (x10_1 : Int), v3 = .bool x3_1 ∧ v4 = .bool x4_1 ∧ v10 = .int .i64 x10_1 ∧ Aside0 (impl_threadOk.l0 kq l0 x3_1 x4_1 l0 (l0.length : Int) x10_1 = some r) ∧ Aside0 (kq ≤ k) ∧ Aside0 (Below w.heap.size w w'))
 case atStart => exact ⟨(false), (false), (0), z77_1, z77_1, z77_1, H', ⟨Nat.le_refl _⟩, ⟨z77_3⟩⟩
 case round =>
  clear H'
  obtain ⟨x3_1, x4_1, x10_1, rfl, rfl, rfl, HA, HK1, HB⟩ := hrel
  cases gk with
  | zero => exact absurd HA.out (by simp [impl_threadOk.l0])
  | succ k1 =>
   have H := HA.out
   clear HA
   simp only [impl_threadOk.l0] at H
   by_cases c2 : x10_1 < (l0.length : Int)
   ·rw [if_pos c2] at H
    have c2b0 : decide (x10_1 < (l0.length : Int)) = true := decide_eq_true c2
    clear c2
    by_cases c3 : 0 ≤ x10_1
    ·rw [if_pos c3] at H
     have c3b0 : decide (0 ≤ x10_1) = true := decide_eq_true c3
     clear c3
     by_cases c4 : x10_1 < (l0.length : Int)
     ·rw [if_pos c4] at H
      have c4b0 : decide (x10_1 < (l0.length : Int)) = true := decide_eq_true c4
      clear c4
      have HC5 := am_ H
      clear H
      have p367 : 0 ≤ (x10_1 : Int) := of_decide_eq_true (by first | (with_reducible assumption) | assumption)
      have q367 : x10_1 < (l0.length : Int) := of_decide_eq_true (by first | (with_reducible assumption) | assumption)
      obtain ⟨ad367, e367, hx367_0, hx367_1, hx367_2⟩ := at_T85 HR0.out x10_1 p367 q367
      cases e367
      replace hx367_0 := (HB.out.cell (World.block_lt_of_cell? w _ hx367_0)).trans hx367_0
      replace hx367_1 := (HB.out.cell (World.block_lt_of_cell? w _ hx367_1)).trans hx367_1
      replace hx367_2 := (HB.out.cell (World.block_lt_of_cell? w _ hx367_2)).trans hx367_2
      replace p367 := eq_true p367
      replace q367 := eq_true q367
      go_upto_region 5 with (first | ((with_reducible refine gate_dst (N := 6) rfl ?_); (try (refine gate_guard (by rfl) ?_; dsimp only)); refine box_event ?hg (N := 6) ?hd (cs := #[.int .i64 0, .int .i64 0, .int .i64 0]) (t := 85) ?hr ?_; (case hd => rfl); (case hg => rfl); (case hr => first | (go_simp; done) | (go_simp; rfl)); intro gb368 hg w6 hbox hb; have n0_ := am_ (below_step z77_3 hb); have n1_ := am_ (hbox); have n2_ := am_ (by rw [hg]; exact (below_size z77_3) : w.heap.size ≤ gb368); have n3_ := am_ (by rw [hg]; exact (below_size z77_3) : w.heap.size ≤ gb368); clear HB; have HB := n0_; have BK368 := n1_; have GW368 := n2_; have GE368 := n3_; clear n0_ n1_ n2_ n3_; clear hb hbox hg; have hcz7_0 := cf0 BK368.out; have hcz7_1 := cf1 BK368.out; have hcz7_2 := cf2 BK368.out; have hfz7_0 := blk_frozen BK368.out 0; have hfz7_1 := blk_frozen BK368.out 1; have hfz7_2 := blk_frozen BK368.out 2))
      (try simp only [Act.put, List.setIfInBounds_toArray, List.set_cons_zero, List.set_cons_succ])
      go_cut [7] (fun v7 wc => ∃ (kq : Nat) (x7_4 : Bool), v7 = .bool x7_4 ∧ Aside0 (impl_threadOk.j1 kq l0 x3_1 x4_1 x7_4 l0 (l0.length : Int) x10_1 ((rd_T85 l0 x10_1).f0) ((rd_T85 l0 x10_1).f1) ((rd_T85 l0 x10_1).f2) = some r) ∧ Aside0 (kq ≤ k1) ∧ Aside0 (wc.heap[gb368]? = some (.cells #[.int .i64 ((rd_T85 l0 x10_1).f0), .int .i64 ((rd_T85 l0 x10_1).f1), .int .i64 ((rd_T85 l0 x10_1).f2)] 85 (0, 0))) ∧ Aside0 (Below w.heap.size w wc))
      case first =>
       have H := HC5.out
       clear HC5
       by_cases c8 : ((rd_T85 l0 x10_1).f0) = 3
       ·rw [if_pos c8] at H
        have c8b0 : (((rd_T85 l0 x10_1).f0) == 3) = true := beq_iff_eq.mpr c8
        have c8b1 : (((rd_T85 l0 x10_1).f0) != 3) = false := bne_eq_false_iff_eq.mpr c8
        clear c8
        (first | rw [c8b0] | (simp only [i64_w, i32_w]; rw [c8b0]) | skip)
        by_cases c9 : x3_1 = true
        ·subst c9
         have H1 : (if x4_1 = true then (if ((rd_T85 l0 x10_1).f0) = 7 then (impl_threadOk.j1 k1 l0 true x4_1 true l0 (l0.length : Int) x10_1 ((rd_T85 l0 x10_1).f0) ((rd_T85 l0 x10_1).f1) ((rd_T85 l0 x10_1).f2)) else (if ((rd_T85 l0 x10_1).f0) = 9 then (impl_threadOk.j1 k1 l0 true x4_1 true l0 (l0.length : Int) x10_1 ((rd_T85 l0 x10_1).f0) ((rd_T85 l0 x10_1).f1) ((rd_T85 l0 x10_1).f2)) else (impl_threadOk.j1 k1 l0 true x4_1 false l0 (l0.length : Int) x10_1 ((rd_T85 l0 x10_1).f0) ((rd_T85 l0 x10_1).f1) ((rd_T85 l0 x10_1).f2)))) else (impl_threadOk.j1 k1 l0 true x4_1 (((rd_T85 l0 x10_1).f0) == 8) l0 (l0.length : Int) x10_1 ((rd_T85 l0 x10_1).f0) ((rd_T85 l0 x10_1).f1) ((rd_T85 l0 x10_1).f2))) = some r := by rw [if_pos rfl] at H; exact H
         clear H
         have H := H1
         clear H1
         by_cases c10 : x4_1 = true
         ·subst c10
          have H1 : (if ((rd_T85 l0 x10_1).f0) = 7 then (impl_threadOk.j1 k1 l0 true true true l0 (l0.length : Int) x10_1 ((rd_T85 l0 x10_1).f0) ((rd_T85 l0 x10_1).f1) ((rd_T85 l0 x10_1).f2)) else (if ((rd_T85 l0 x10_1).f0) = 9 then (impl_threadOk.j1 k1 l0 true true true l0 (l0.length : Int) x10_1 ((rd_T85 l0 x10_1).f0) ((rd_T85 l0 x10_1).f1) ((rd_T85 l0 x10_1).f2)) else (impl_threadOk.j1 k1 l0 true true false l0 (l0.length : Int) x10_1 ((rd_T85 l0 x10_1).f0) ((rd_T85 l0 x10_1).f1) ((rd_T85 l0 x10_1).f2)))) = some r := by rw [if_pos rfl] at H; exact H
          clear H
          have H := H1
          clear H1
          by_cases c11 : ((rd_T85 l0 x10_1).f0) = 7
          ·rw [if_pos c11] at H
           have c11b0 : (((rd_T85 l0 x10_1).f0) == 7) = true := beq_iff_eq.mpr c11
           have c11b1 : (((rd_T85 l0 x10_1).f0) != 7) = false := bne_eq_false_iff_eq.mpr c11
           clear c11
           have H' := am_ H
           clear H
           have hcz12_0 := cf0 BK368.out
           have hcz12_1 := cf1 BK368.out
           have hcz12_2 := cf2 BK368.out
           have hfz12_0 := blk_frozen BK368.out 0
           have hfz12_1 := blk_frozen BK368.out 1
           have hfz12_2 := blk_frozen BK368.out 2
           go_wp2
           go_meet
           case rel => exact ⟨_, (true), z77_1, H', ⟨by have := HK1.out; first | omega | exact Nat.le_refl _⟩, ⟨z77_5⟩, ⟨z77_4⟩⟩
          rw [if_neg c11] at H
          have c11b0 : (((rd_T85 l0 x10_1).f0) == 7) = false := beq_eq_false_iff_ne.mpr c11
          have c11b1 : (((rd_T85 l0 x10_1).f0) != 7) = true := bne_iff_ne.mpr c11
          by_cases c13 : ((rd_T85 l0 x10_1).f0) = 9
          ·rw [if_pos c13] at H
           have c13b0 : (((rd_T85 l0 x10_1).f0) == 9) = true := beq_iff_eq.mpr c13
           have c13b1 : (((rd_T85 l0 x10_1).f0) != 9) = false := bne_eq_false_iff_eq.mpr c13
           clear c13
           have H' := am_ H
           clear H
           have hcz14_0 := cf0 BK368.out
           have hcz14_1 := cf1 BK368.out
           have hcz14_2 := cf2 BK368.out
           have hfz14_0 := blk_frozen BK368.out 0
           have hfz14_1 := blk_frozen BK368.out 1
           have hfz14_2 := blk_frozen BK368.out 2
           go_wp2
           go_meet
           case rel => exact ⟨_, (true), z77_1, H', ⟨by have := HK1.out; first | omega | exact Nat.le_refl _⟩, ⟨z77_5⟩, ⟨z77_4⟩⟩
          rw [if_neg c13] at H
          have c13b0 : (((rd_T85 l0 x10_1).f0) == 9) = false := beq_eq_false_iff_ne.mpr c13
          have c13b1 : (((rd_T85 l0 x10_1).f0) != 9) = true := bne_iff_ne.mpr c13
          have H' := am_ H
          clear H
          have hcz15_0 := cf0 BK368.out
          have hcz15_1 := cf1 BK368.out
          have hcz15_2 := cf2 BK368.out
          have hfz15_0 := blk_frozen BK368.out 0
          have hfz15_1 := blk_frozen BK368.out 1
          have hfz15_2 := blk_frozen BK368.out 2
          go_wp2
          go_meet
          case rel => exact ⟨_, (false), z77_1, H', ⟨by have := HK1.out; first | omega | exact Nat.le_refl _⟩, ⟨z77_5⟩, ⟨z77_4⟩⟩
         replace c10 := Bool.eq_false_iff.mpr c10
         subst c10
         have H1 : (impl_threadOk.j1 k1 l0 true false (((rd_T85 l0 x10_1).f0) == 8) l0 (l0.length : Int) x10_1 ((rd_T85 l0 x10_1).f0) ((rd_T85 l0 x10_1).f1) ((rd_T85 l0 x10_1).f2)) = some r := by rw [if_neg (show ¬ (false = true) by decide)] at H; exact H
         clear H
         have H := H1
         clear H1
         have H' := am_ H
         clear H
         have hcz16_0 := cf0 BK368.out
         have hcz16_1 := cf1 BK368.out
         have hcz16_2 := cf2 BK368.out
         have hfz16_0 := blk_frozen BK368.out 0
         have hfz16_1 := blk_frozen BK368.out 1
         have hfz16_2 := blk_frozen BK368.out 2
         go_wp2
         go_meet
         case rel => exact ⟨_, ((((rd_T85 l0 x10_1).f0) == 8)), z77_1, H', ⟨by have := HK1.out; first | omega | exact Nat.le_refl _⟩, ⟨z77_5⟩, ⟨z77_4⟩⟩
        replace c9 := Bool.eq_false_iff.mpr c9
        subst c9
        have H1 : (impl_threadOk.j1 k1 l0 false x4_1 true l0 (l0.length : Int) x10_1 ((rd_T85 l0 x10_1).f0) ((rd_T85 l0 x10_1).f1) ((rd_T85 l0 x10_1).f2)) = some r := by rw [if_neg (show ¬ (false = true) by decide)] at H; exact H
        clear H
        have H := H1
        clear H1
        have H' := am_ H
        clear H
        have hcz17_0 := cf0 BK368.out
        have hcz17_1 := cf1 BK368.out
        have hcz17_2 := cf2 BK368.out
        have hfz17_0 := blk_frozen BK368.out 0
        have hfz17_1 := blk_frozen BK368.out 1
        have hfz17_2 := blk_frozen BK368.out 2
        go_wp2
        go_meet
        case rel => exact ⟨_, (true), z77_1, H', ⟨by have := HK1.out; first | omega | exact Nat.le_refl _⟩, ⟨z77_5⟩, ⟨z77_4⟩⟩
       rw [if_neg c8] at H
       have c8b0 : (((rd_T85 l0 x10_1).f0) == 3) = false := beq_eq_false_iff_ne.mpr c8
       have c8b1 : (((rd_T85 l0 x10_1).f0) != 3) = true := bne_iff_ne.mpr c8
       (first | rw [c8b0] | (simp only [i64_w, i32_w]; rw [c8b0]) | skip)
       by_cases c18 : x4_1 = true
       ·subst c18
        have H1 : (if ((rd_T85 l0 x10_1).f0) = 7 then (impl_threadOk.j1 k1 l0 x3_1 true true l0 (l0.length : Int) x10_1 ((rd_T85 l0 x10_1).f0) ((rd_T85 l0 x10_1).f1) ((rd_T85 l0 x10_1).f2)) else (if ((rd_T85 l0 x10_1).f0) = 9 then (impl_threadOk.j1 k1 l0 x3_1 true true l0 (l0.length : Int) x10_1 ((rd_T85 l0 x10_1).f0) ((rd_T85 l0 x10_1).f1) ((rd_T85 l0 x10_1).f2)) else (impl_threadOk.j1 k1 l0 x3_1 true false l0 (l0.length : Int) x10_1 ((rd_T85 l0 x10_1).f0) ((rd_T85 l0 x10_1).f1) ((rd_T85 l0 x10_1).f2)))) = some r := by rw [if_pos rfl] at H; exact H
        clear H
        have H := H1
        clear H1
        by_cases c19 : ((rd_T85 l0 x10_1).f0) = 7
        ·rw [if_pos c19] at H
         have c19b0 : (((rd_T85 l0 x10_1).f0) == 7) = true := beq_iff_eq.mpr c19
         have c19b1 : (((rd_T85 l0 x10_1).f0) != 7) = false := bne_eq_false_iff_eq.mpr c19
         clear c19
         have H' := am_ H
         clear H
         have hcz20_0 := cf0 BK368.out
         have hcz20_1 := cf1 BK368.out
         have hcz20_2 := cf2 BK368.out
         have hfz20_0 := blk_frozen BK368.out 0
         have hfz20_1 := blk_frozen BK368.out 1
         have hfz20_2 := blk_frozen BK368.out 2
         go_wp2
         go_meet
         case rel => exact ⟨_, (true), z77_1, H', ⟨by have := HK1.out; first | omega | exact Nat.le_refl _⟩, ⟨z77_5⟩, ⟨z77_4⟩⟩
        rw [if_neg c19] at H
        have c19b0 : (((rd_T85 l0 x10_1).f0) == 7) = false := beq_eq_false_iff_ne.mpr c19
        have c19b1 : (((rd_T85 l0 x10_1).f0) != 7) = true := bne_iff_ne.mpr c19
        by_cases c21 : ((rd_T85 l0 x10_1).f0) = 9
        ·rw [if_pos c21] at H
         have c21b0 : (((rd_T85 l0 x10_1).f0) == 9) = true := beq_iff_eq.mpr c21
         have c21b1 : (((rd_T85 l0 x10_1).f0) != 9) = false := bne_eq_false_iff_eq.mpr c21
         clear c21
         have H' := am_ H
         clear H
         have hcz22_0 := cf0 BK368.out
         have hcz22_1 := cf1 BK368.out
         have hcz22_2 := cf2 BK368.out
         have hfz22_0 := blk_frozen BK368.out 0
         have hfz22_1 := blk_frozen BK368.out 1
         have hfz22_2 := blk_frozen BK368.out 2
         go_wp2
         go_meet
         case rel => exact ⟨_, (true), z77_1, H', ⟨by have := HK1.out; first | omega | exact Nat.le_refl _⟩, ⟨z77_5⟩, ⟨z77_4⟩⟩
        rw [if_neg c21] at H
        have c21b0 : (((rd_T85 l0 x10_1).f0) == 9) = false := beq_eq_false_iff_ne.mpr c21
        have c21b1 : (((rd_T85 l0 x10_1).f0) != 9) = true := bne_iff_ne.mpr c21
        have H' := am_ H
        clear H
        have hcz23_0 := cf0 BK368.out
        have hcz23_1 := cf1 BK368.out
        have hcz23_2 := cf2 BK368.out
        have hfz23_0 := blk_frozen BK368.out 0
        have hfz23_1 := blk_frozen BK368.out 1
        have hfz23_2 := blk_frozen BK368.out 2
        go_wp2
        go_meet
        case rel => exact ⟨_, (false), z77_1, H', ⟨by have := HK1.out; first | omega | exact Nat.le_refl _⟩, ⟨z77_5⟩, ⟨z77_4⟩⟩
       replace c18 := Bool.eq_false_iff.mpr c18
       subst c18
       have H1 : (impl_threadOk.j1 k1 l0 x3_1 false (((rd_T85 l0 x10_1).f0) == 8) l0 (l0.length : Int) x10_1 ((rd_T85 l0 x10_1).f0) ((rd_T85 l0 x10_1).f1) ((rd_T85 l0 x10_1).f2)) = some r := by rw [if_neg (show ¬ (false = true) by decide)] at H; exact H
       clear H
       have H := H1
       clear H1
       have H' := am_ H
       clear H
       have hcz24_0 := cf0 BK368.out
       have hcz24_1 := cf1 BK368.out
       have hcz24_2 := cf2 BK368.out
       have hfz24_0 := blk_frozen BK368.out 0
       have hfz24_1 := blk_frozen BK368.out 1
       have hfz24_2 := blk_frozen BK368.out 2
       go_wp2
       go_meet
       case rel => exact ⟨_, ((((rd_T85 l0 x10_1).f0) == 8)), z77_1, H', ⟨by have := HK1.out; first | omega | exact Nat.le_refl _⟩, ⟨z77_5⟩, ⟨z77_4⟩⟩
      case rest =>
       clear HC5
       obtain ⟨kq, x7_4, rfl, HA, HJ4, BK368, HB⟩ := hcut
       cases kq with
       | zero => exact absurd HA.out (by simp [impl_threadOk.j1])
       | succ kj4 =>
        have H := HA.out
        clear HA
        simp only [impl_threadOk.j1] at H
        replace H := Option.bind_eq_some_iff.mp H
        obtain ⟨t369, A250, H⟩ := H
        replace H : (if t369 = true then (if x7_4 = true then (some false) else (if x3_1 = true then (if ((rd_T85 l0 x10_1).f0) = 7 then (impl_threadOk.l0 kj4 l0 true true l0 (l0.length : Int) (wrap64 (x10_1 + 1))) else (if x4_1 = true then (impl_threadOk.l0 kj4 l0 true (((rd_T85 l0 x10_1).f0) != 8) l0 (l0.length : Int) (wrap64 (x10_1 + 1))) else (impl_threadOk.l0 kj4 l0 true false l0 (l0.length : Int) (wrap64 (x10_1 + 1))))) else ((impl_Do_reads.f ((rd_T85 l0 x10_1).f0) ((rd_T85 l0 x10_1).f1) ((rd_T85 l0 x10_1).f2)).bind fun t370 => (if ((rd_T85 l0 x10_1).f0) = 7 then (impl_threadOk.l0 kj4 l0 t370 true l0 (l0.length : Int) (wrap64 (x10_1 + 1))) else (if x4_1 = true then (impl_threadOk.l0 kj4 l0 t370 (((rd_T85 l0 x10_1).f0) != 8) l0 (l0.length : Int) (wrap64 (x10_1 + 1))) else (impl_threadOk.l0 kj4 l0 t370 false l0 (l0.length : Int) (wrap64 (x10_1 + 1)))))))) else (some false)) = some r := H
        have A25 := am_ A250
        clear A250
        by_cases c26 : t369 = true
        ·subst c26
         have H1 : (if x7_4 = true then (some false) else (if x3_1 = true then (if ((rd_T85 l0 x10_1).f0) = 7 then (impl_threadOk.l0 kj4 l0 true true l0 (l0.length : Int) (wrap64 (x10_1 + 1))) else (if x4_1 = true then (impl_threadOk.l0 kj4 l0 true (((rd_T85 l0 x10_1).f0) != 8) l0 (l0.length : Int) (wrap64 (x10_1 + 1))) else (impl_threadOk.l0 kj4 l0 true false l0 (l0.length : Int) (wrap64 (x10_1 + 1))))) else ((impl_Do_reads.f ((rd_T85 l0 x10_1).f0) ((rd_T85 l0 x10_1).f1) ((rd_T85 l0 x10_1).f2)).bind fun t370 => (if ((rd_T85 l0 x10_1).f0) = 7 then (impl_threadOk.l0 kj4 l0 t370 true l0 (l0.length : Int) (wrap64 (x10_1 + 1))) else (if x4_1 = true then (impl_threadOk.l0 kj4 l0 t370 (((rd_T85 l0 x10_1).f0) != 8) l0 (l0.length : Int) (wrap64 (x10_1 + 1))) else (impl_threadOk.l0 kj4 l0 t370 false l0 (l0.length : Int) (wrap64 (x10_1 + 1)))))))) = some r := by rw [if_pos rfl] at H; exact H
         clear H
         have H := H1
         clear H1
         by_cases c27 : x7_4 = true
         ·subst c27
          have H1 : (some false) = some r := by rw [if_pos rfl] at H; exact H
          clear H
          have H := H1
          clear H1
          obtain rfl := Option.some.inj H
          have hcz28_0 := cf0 BK368.out
          have hcz28_1 := cf1 BK368.out
          have hcz28_2 := cf2 BK368.out
          have hfz28_0 := blk_frozen BK368.out 0
          have hfz28_1 := blk_frozen BK368.out 1
          have hfz28_2 := blk_frozen BK368.out 2
          go_wp2_with (first | ((with_reducible refine gate_callee (f := 116) rfl ?_); refine goesL_ (some 44) rfl rfl Try.func116 (by kernel_rfl) rfl #[.agg #[.int .i64 ((rd_T85 l0 x10_1).f0), .int .i64 ((rd_T85 l0 x10_1).f1), .int .i64 ((rd_T85 l0 x10_1).f2)]] rfl (by (try simp only [List.map_toArray, List.map_cons, List.map_nil]); first | done | rfl | (simp only [List.length_drop, List.length_take]; rfl)) ?_; (with_reducible refine (impl_Do_formed.calls kj4 ((rd_T85 l0 x10_1).f0) ((rd_T85 l0 x10_1).f1) ((rd_T85 l0 x10_1).f2) true _ A25.out).mono ?_); rintro e w29 ⟨rfl, hb⟩; refine ⟨_, rfl, ?_⟩; replace BK368 := am_ (blk_below (bu BK368.out) hb); replace HB := am_ (below_step z77_4 hb); (try clear hb); (try clear hb2); (try clear hk); (try clear hi)))
          go_ret
          exact ⟨z77_2, z77_4⟩
         replace c27 := Bool.eq_false_iff.mpr c27
         subst c27
         have H1 : (if x3_1 = true then (if ((rd_T85 l0 x10_1).f0) = 7 then (impl_threadOk.l0 kj4 l0 true true l0 (l0.length : Int) (wrap64 (x10_1 + 1))) else (if x4_1 = true then (impl_threadOk.l0 kj4 l0 true (((rd_T85 l0 x10_1).f0) != 8) l0 (l0.length : Int) (wrap64 (x10_1 + 1))) else (impl_threadOk.l0 kj4 l0 true false l0 (l0.length : Int) (wrap64 (x10_1 + 1))))) else ((impl_Do_reads.f ((rd_T85 l0 x10_1).f0) ((rd_T85 l0 x10_1).f1) ((rd_T85 l0 x10_1).f2)).bind fun t370 => (if ((rd_T85 l0 x10_1).f0) = 7 then (impl_threadOk.l0 kj4 l0 t370 true l0 (l0.length : Int) (wrap64 (x10_1 + 1))) else (if x4_1 = true then (impl_threadOk.l0 kj4 l0 t370 (((rd_T85 l0 x10_1).f0) != 8) l0 (l0.length : Int) (wrap64 (x10_1 + 1))) else (impl_threadOk.l0 kj4 l0 t370 false l0 (l0.length : Int) (wrap64 (x10_1 + 1))))))) = some r := by rw [if_neg (show ¬ (false = true) by decide)] at H; exact H
         clear H
         have H := H1
         clear H1
         by_cases c30 : x3_1 = true
         ·subst c30
          have H1 : (if ((rd_T85 l0 x10_1).f0) = 7 then (impl_threadOk.l0 kj4 l0 true true l0 (l0.length : Int) (wrap64 (x10_1 + 1))) else (if x4_1 = true then (impl_threadOk.l0 kj4 l0 true (((rd_T85 l0 x10_1).f0) != 8) l0 (l0.length : Int) (wrap64 (x10_1 + 1))) else (impl_threadOk.l0 kj4 l0 true false l0 (l0.length : Int) (wrap64 (x10_1 + 1))))) = some r := by rw [if_pos rfl] at H; exact H
          clear H
          have H := H1
          clear H1
          by_cases c31 : ((rd_T85 l0 x10_1).f0) = 7
          ·rw [if_pos c31] at H
           have c31b0 : (((rd_T85 l0 x10_1).f0) == 7) = true := beq_iff_eq.mpr c31
           have c31b1 : (((rd_T85 l0 x10_1).f0) != 7) = false := bne_eq_false_iff_eq.mpr c31
           clear c31
           have H' := am_ H
           clear H
           have hcz32_0 := cf0 BK368.out
           have hcz32_1 := cf1 BK368.out
           have hcz32_2 := cf2 BK368.out
           have hfz32_0 := blk_frozen BK368.out 0
           have hfz32_1 := blk_frozen BK368.out 1
           have hfz32_2 := blk_frozen BK368.out 2
           go_wp2_with (first | ((with_reducible refine gate_callee (f := 116) rfl ?_); refine goesL_ (some 44) rfl rfl Try.func116 (by kernel_rfl) rfl #[.agg #[.int .i64 ((rd_T85 l0 x10_1).f0), .int .i64 ((rd_T85 l0 x10_1).f1), .int .i64 ((rd_T85 l0 x10_1).f2)]] rfl (by (try simp only [List.map_toArray, List.map_cons, List.map_nil]); first | done | rfl | (simp only [List.length_drop, List.length_take]; rfl)) ?_; (with_reducible refine (impl_Do_formed.calls kj4 ((rd_T85 l0 x10_1).f0) ((rd_T85 l0 x10_1).f1) ((rd_T85 l0 x10_1).f2) true _ A25.out).mono ?_); rintro e w33 ⟨rfl, hb⟩; refine ⟨_, rfl, ?_⟩; replace BK368 := am_ (blk_below (bu BK368.out) hb); replace HB := am_ (below_step z77_4 hb); (try clear hb); (try clear hb2); (try clear hk); (try clear hi); have hcz34_0 := cf0 BK368.out; have hcz34_1 := cf1 BK368.out; have hcz34_2 := cf2 BK368.out; have hfz34_0 := blk_frozen BK368.out 0; have hfz34_1 := blk_frozen BK368.out 1; have hfz34_2 := blk_frozen BK368.out 2))
           go_roundg kj4
           case measure => have := HK1.out; have := HJ4.out; omega
           case rel => exact ⟨(true), (true), (wrap64 (x10_1 + 1)), z77_1, z77_1, z77_1, H', ⟨by have := HK1.out; have := HJ4.out; omega⟩, ⟨z77_4⟩⟩
          rw [if_neg c31] at H
          have c31b0 : (((rd_T85 l0 x10_1).f0) == 7) = false := beq_eq_false_iff_ne.mpr c31
          have c31b1 : (((rd_T85 l0 x10_1).f0) != 7) = true := bne_iff_ne.mpr c31
          by_cases c35 : x4_1 = true
          ·subst c35
           have H1 : (impl_threadOk.l0 kj4 l0 true (((rd_T85 l0 x10_1).f0) != 8) l0 (l0.length : Int) (wrap64 (x10_1 + 1))) = some r := by rw [if_pos rfl] at H; exact H
           clear H
           have H := H1
           clear H1
           have H' := am_ H
           clear H
           have hcz36_0 := cf0 BK368.out
           have hcz36_1 := cf1 BK368.out
           have hcz36_2 := cf2 BK368.out
           have hfz36_0 := blk_frozen BK368.out 0
           have hfz36_1 := blk_frozen BK368.out 1
           have hfz36_2 := blk_frozen BK368.out 2
           go_wp2_with (first | ((with_reducible refine gate_callee (f := 116) rfl ?_); refine goesL_ (some 44) rfl rfl Try.func116 (by kernel_rfl) rfl #[.agg #[.int .i64 ((rd_T85 l0 x10_1).f0), .int .i64 ((rd_T85 l0 x10_1).f1), .int .i64 ((rd_T85 l0 x10_1).f2)]] rfl (by (try simp only [List.map_toArray, List.map_cons, List.map_nil]); first | done | rfl | (simp only [List.length_drop, List.length_take]; rfl)) ?_; (with_reducible refine (impl_Do_formed.calls kj4 ((rd_T85 l0 x10_1).f0) ((rd_T85 l0 x10_1).f1) ((rd_T85 l0 x10_1).f2) true _ A25.out).mono ?_); rintro e w37 ⟨rfl, hb⟩; refine ⟨_, rfl, ?_⟩; replace BK368 := am_ (blk_below (bu BK368.out) hb); replace HB := am_ (below_step z77_4 hb); (try clear hb); (try clear hb2); (try clear hk); (try clear hi); have hcz38_0 := cf0 BK368.out; have hcz38_1 := cf1 BK368.out; have hcz38_2 := cf2 BK368.out; have hfz38_0 := blk_frozen BK368.out 0; have hfz38_1 := blk_frozen BK368.out 1; have hfz38_2 := blk_frozen BK368.out 2))
           go_roundg kj4
           case measure => have := HK1.out; have := HJ4.out; omega
           case rel => exact ⟨(true), ((((rd_T85 l0 x10_1).f0) != 8)), (wrap64 (x10_1 + 1)), z77_1, z77_1, z77_1, H', ⟨by have := HK1.out; have := HJ4.out; omega⟩, ⟨z77_4⟩⟩
          replace c35 := Bool.eq_false_iff.mpr c35
          subst c35
          have H1 : (impl_threadOk.l0 kj4 l0 true false l0 (l0.length : Int) (wrap64 (x10_1 + 1))) = some r := by rw [if_neg (show ¬ (false = true) by decide)] at H; exact H
          clear H
          have H := H1
          clear H1
          have H' := am_ H
          clear H
          have hcz39_0 := cf0 BK368.out
          have hcz39_1 := cf1 BK368.out
          have hcz39_2 := cf2 BK368.out
          have hfz39_0 := blk_frozen BK368.out 0
          have hfz39_1 := blk_frozen BK368.out 1
          have hfz39_2 := blk_frozen BK368.out 2
          go_wp2_with (first | ((with_reducible refine gate_callee (f := 116) rfl ?_); refine goesL_ (some 44) rfl rfl Try.func116 (by kernel_rfl) rfl #[.agg #[.int .i64 ((rd_T85 l0 x10_1).f0), .int .i64 ((rd_T85 l0 x10_1).f1), .int .i64 ((rd_T85 l0 x10_1).f2)]] rfl (by (try simp only [List.map_toArray, List.map_cons, List.map_nil]); first | done | rfl | (simp only [List.length_drop, List.length_take]; rfl)) ?_; (with_reducible refine (impl_Do_formed.calls kj4 ((rd_T85 l0 x10_1).f0) ((rd_T85 l0 x10_1).f1) ((rd_T85 l0 x10_1).f2) true _ A25.out).mono ?_); rintro e w40 ⟨rfl, hb⟩; refine ⟨_, rfl, ?_⟩; replace BK368 := am_ (blk_below (bu BK368.out) hb); replace HB := am_ (below_step z77_4 hb); (try clear hb); (try clear hb2); (try clear hk); (try clear hi); have hcz41_0 := cf0 BK368.out; have hcz41_1 := cf1 BK368.out; have hcz41_2 := cf2 BK368.out; have hfz41_0 := blk_frozen BK368.out 0; have hfz41_1 := blk_frozen BK368.out 1; have hfz41_2 := blk_frozen BK368.out 2))
          go_roundg kj4
          case measure => have := HK1.out; have := HJ4.out; omega
          case rel => exact ⟨(true), (false), (wrap64 (x10_1 + 1)), z77_1, z77_1, z77_1, H', ⟨by have := HK1.out; have := HJ4.out; omega⟩, ⟨z77_4⟩⟩
         replace c30 := Bool.eq_false_iff.mpr c30
         subst c30
         have H1 : ((impl_Do_reads.f ((rd_T85 l0 x10_1).f0) ((rd_T85 l0 x10_1).f1) ((rd_T85 l0 x10_1).f2)).bind fun t370 => (if ((rd_T85 l0 x10_1).f0) = 7 then (impl_threadOk.l0 kj4 l0 t370 true l0 (l0.length : Int) (wrap64 (x10_1 + 1))) else (if x4_1 = true then (impl_threadOk.l0 kj4 l0 t370 (((rd_T85 l0 x10_1).f0) != 8) l0 (l0.length : Int) (wrap64 (x10_1 + 1))) else (impl_threadOk.l0 kj4 l0 t370 false l0 (l0.length : Int) (wrap64 (x10_1 + 1)))))) = some r := by rw [if_neg (show ¬ (false = true) by decide)] at H; exact H
         clear H
         have H := H1
         clear H1
         replace H := Option.bind_eq_some_iff.mp H
         obtain ⟨t370, A420, H⟩ := H
         replace H : (if ((rd_T85 l0 x10_1).f0) = 7 then (impl_threadOk.l0 kj4 l0 t370 true l0 (l0.length : Int) (wrap64 (x10_1 + 1))) else (if x4_1 = true then (impl_threadOk.l0 kj4 l0 t370 (((rd_T85 l0 x10_1).f0) != 8) l0 (l0.length : Int) (wrap64 (x10_1 + 1))) else (impl_threadOk.l0 kj4 l0 t370 false l0 (l0.length : Int) (wrap64 (x10_1 + 1))))) = some r := H
         have A42 := am_ A420
         clear A420
         by_cases c43 : ((rd_T85 l0 x10_1).f0) = 7
         ·rw [if_pos c43] at H
          have c43b0 : (((rd_T85 l0 x10_1).f0) == 7) = true := beq_iff_eq.mpr c43
          have c43b1 : (((rd_T85 l0 x10_1).f0) != 7) = false := bne_eq_false_iff_eq.mpr c43
          clear c43
          have H' := am_ H
          clear H
          have hcz44_0 := cf0 BK368.out
          have hcz44_1 := cf1 BK368.out
          have hcz44_2 := cf2 BK368.out
          have hfz44_0 := blk_frozen BK368.out 0
          have hfz44_1 := blk_frozen BK368.out 1
          have hfz44_2 := blk_frozen BK368.out 2
          go_wp2_with (first | ((with_reducible refine gate_callee (f := 116) rfl ?_); refine goesL_ (some 44) rfl rfl Try.func116 (by kernel_rfl) rfl #[.agg #[.int .i64 ((rd_T85 l0 x10_1).f0), .int .i64 ((rd_T85 l0 x10_1).f1), .int .i64 ((rd_T85 l0 x10_1).f2)]] rfl (by (try simp only [List.map_toArray, List.map_cons, List.map_nil]); first | done | rfl | (simp only [List.length_drop, List.length_take]; rfl)) ?_; (with_reducible refine (impl_Do_formed.calls kj4 ((rd_T85 l0 x10_1).f0) ((rd_T85 l0 x10_1).f1) ((rd_T85 l0 x10_1).f2) true _ A25.out).mono ?_); rintro e w45 ⟨rfl, hb⟩; refine ⟨_, rfl, ?_⟩; replace BK368 := am_ (blk_below (bu BK368.out) hb); replace HB := am_ (below_step z77_4 hb); (try clear hb); (try clear hb2); (try clear hk); (try clear hi); have hcz46_0 := cf0 BK368.out; have hcz46_1 := cf1 BK368.out; have hcz46_2 := cf2 BK368.out; have hfz46_0 := blk_frozen BK368.out 0; have hfz46_1 := blk_frozen BK368.out 1; have hfz46_2 := blk_frozen BK368.out 2) | (go_at_call 114; (with_reducible refine (impl_Do_reads.calls ((rd_T85 l0 x10_1).f0) ((rd_T85 l0 x10_1).f1) ((rd_T85 l0 x10_1).f2) t370 _ A42.out).mono ?_); rintro e w47 ⟨rfl, hb⟩; replace BK368 := am_ (blk_below (bu BK368.out) hb); replace HB := am_ (below_step z77_4 hb); (try clear hb); (try clear hb2); (try clear hk); (try clear hi); have hcz48_0 := cf0 BK368.out; have hcz48_1 := cf1 BK368.out; have hcz48_2 := cf2 BK368.out; have hfz48_0 := blk_frozen BK368.out 0; have hfz48_1 := blk_frozen BK368.out 1; have hfz48_2 := blk_frozen BK368.out 2))
          go_roundg kj4
          case measure => have := HK1.out; have := HJ4.out; omega
          case rel => exact ⟨(t370), (true), (wrap64 (x10_1 + 1)), z77_1, z77_1, z77_1, H', ⟨by have := HK1.out; have := HJ4.out; omega⟩, ⟨z77_4⟩⟩
         rw [if_neg c43] at H
         have c43b0 : (((rd_T85 l0 x10_1).f0) == 7) = false := beq_eq_false_iff_ne.mpr c43
         have c43b1 : (((rd_T85 l0 x10_1).f0) != 7) = true := bne_iff_ne.mpr c43
         by_cases c49 : x4_1 = true
         ·subst c49
          have H1 : (impl_threadOk.l0 kj4 l0 t370 (((rd_T85 l0 x10_1).f0) != 8) l0 (l0.length : Int) (wrap64 (x10_1 + 1))) = some r := by rw [if_pos rfl] at H; exact H
          clear H
          have H := H1
          clear H1
          have H' := am_ H
          clear H
          have hcz50_0 := cf0 BK368.out
          have hcz50_1 := cf1 BK368.out
          have hcz50_2 := cf2 BK368.out
          have hfz50_0 := blk_frozen BK368.out 0
          have hfz50_1 := blk_frozen BK368.out 1
          have hfz50_2 := blk_frozen BK368.out 2
          go_wp2_with (first | ((with_reducible refine gate_callee (f := 116) rfl ?_); refine goesL_ (some 44) rfl rfl Try.func116 (by kernel_rfl) rfl #[.agg #[.int .i64 ((rd_T85 l0 x10_1).f0), .int .i64 ((rd_T85 l0 x10_1).f1), .int .i64 ((rd_T85 l0 x10_1).f2)]] rfl (by (try simp only [List.map_toArray, List.map_cons, List.map_nil]); first | done | rfl | (simp only [List.length_drop, List.length_take]; rfl)) ?_; (with_reducible refine (impl_Do_formed.calls kj4 ((rd_T85 l0 x10_1).f0) ((rd_T85 l0 x10_1).f1) ((rd_T85 l0 x10_1).f2) true _ A25.out).mono ?_); rintro e w51 ⟨rfl, hb⟩; refine ⟨_, rfl, ?_⟩; replace BK368 := am_ (blk_below (bu BK368.out) hb); replace HB := am_ (below_step z77_4 hb); (try clear hb); (try clear hb2); (try clear hk); (try clear hi); have hcz52_0 := cf0 BK368.out; have hcz52_1 := cf1 BK368.out; have hcz52_2 := cf2 BK368.out; have hfz52_0 := blk_frozen BK368.out 0; have hfz52_1 := blk_frozen BK368.out 1; have hfz52_2 := blk_frozen BK368.out 2) | (go_at_call 114; (with_reducible refine (impl_Do_reads.calls ((rd_T85 l0 x10_1).f0) ((rd_T85 l0 x10_1).f1) ((rd_T85 l0 x10_1).f2) t370 _ A42.out).mono ?_); rintro e w53 ⟨rfl, hb⟩; replace BK368 := am_ (blk_below (bu BK368.out) hb); replace HB := am_ (below_step z77_4 hb); (try clear hb); (try clear hb2); (try clear hk); (try clear hi); have hcz54_0 := cf0 BK368.out; have hcz54_1 := cf1 BK368.out; have hcz54_2 := cf2 BK368.out; have hfz54_0 := blk_frozen BK368.out 0; have hfz54_1 := blk_frozen BK368.out 1; have hfz54_2 := blk_frozen BK368.out 2))
          go_roundg kj4
          case measure => have := HK1.out; have := HJ4.out; omega
          case rel => exact ⟨(t370), ((((rd_T85 l0 x10_1).f0) != 8)), (wrap64 (x10_1 + 1)), z77_1, z77_1, z77_1, H', ⟨by have := HK1.out; have := HJ4.out; omega⟩, ⟨z77_4⟩⟩
         replace c49 := Bool.eq_false_iff.mpr c49
         subst c49
         have H1 : (impl_threadOk.l0 kj4 l0 t370 false l0 (l0.length : Int) (wrap64 (x10_1 + 1))) = some r := by rw [if_neg (show ¬ (false = true) by decide)] at H; exact H
         clear H
         have H := H1
         clear H1
         have H' := am_ H
         clear H
         have hcz55_0 := cf0 BK368.out
         have hcz55_1 := cf1 BK368.out
         have hcz55_2 := cf2 BK368.out
         have hfz55_0 := blk_frozen BK368.out 0
         have hfz55_1 := blk_frozen BK368.out 1
         have hfz55_2 := blk_frozen BK368.out 2
         go_wp2_with (first | ((with_reducible refine gate_callee (f := 116) rfl ?_); refine goesL_ (some 44) rfl rfl Try.func116 (by kernel_rfl) rfl #[.agg #[.int .i64 ((rd_T85 l0 x10_1).f0), .int .i64 ((rd_T85 l0 x10_1).f1), .int .i64 ((rd_T85 l0 x10_1).f2)]] rfl (by (try simp only [List.map_toArray, List.map_cons, List.map_nil]); first | done | rfl | (simp only [List.length_drop, List.length_take]; rfl)) ?_; (with_reducible refine (impl_Do_formed.calls kj4 ((rd_T85 l0 x10_1).f0) ((rd_T85 l0 x10_1).f1) ((rd_T85 l0 x10_1).f2) true _ A25.out).mono ?_); rintro e w56 ⟨rfl, hb⟩; refine ⟨_, rfl, ?_⟩; replace BK368 := am_ (blk_below (bu BK368.out) hb); replace HB := am_ (below_step z77_4 hb); (try clear hb); (try clear hb2); (try clear hk); (try clear hi); have hcz57_0 := cf0 BK368.out; have hcz57_1 := cf1 BK368.out; have hcz57_2 := cf2 BK368.out; have hfz57_0 := blk_frozen BK368.out 0; have hfz57_1 := blk_frozen BK368.out 1; have hfz57_2 := blk_frozen BK368.out 2) | (go_at_call 114; (with_reducible refine (impl_Do_reads.calls ((rd_T85 l0 x10_1).f0) ((rd_T85 l0 x10_1).f1) ((rd_T85 l0 x10_1).f2) t370 _ A42.out).mono ?_); rintro e w58 ⟨rfl, hb⟩; replace BK368 := am_ (blk_below (bu BK368.out) hb); replace HB := am_ (below_step z77_4 hb); (try clear hb); (try clear hb2); (try clear hk); (try clear hi); have hcz59_0 := cf0 BK368.out; have hcz59_1 := cf1 BK368.out; have hcz59_2 := cf2 BK368.out; have hfz59_0 := blk_frozen BK368.out 0; have hfz59_1 := blk_frozen BK368.out 1; have hfz59_2 := blk_frozen BK368.out 2))
         go_roundg kj4
         case measure => have := HK1.out; have := HJ4.out; omega
         case rel => exact ⟨(t370), (false), (wrap64 (x10_1 + 1)), z77_1, z77_1, z77_1, H', ⟨by have := HK1.out; have := HJ4.out; omega⟩, ⟨z77_4⟩⟩
        replace c26 := Bool.eq_false_iff.mpr c26
        subst c26
        have H1 : (some false) = some r := by rw [if_neg (show ¬ (false = true) by decide)] at H; exact H
        clear H
        have H := H1
        clear H1
        obtain rfl := Option.some.inj H
        have hcz60_0 := cf0 BK368.out
        have hcz60_1 := cf1 BK368.out
        have hcz60_2 := cf2 BK368.out
        have hfz60_0 := blk_frozen BK368.out 0
        have hfz60_1 := blk_frozen BK368.out 1
        have hfz60_2 := blk_frozen BK368.out 2
        go_wp2_with (first | ((with_reducible refine gate_callee (f := 116) rfl ?_); refine goesL_ (some 44) rfl rfl Try.func116 (by kernel_rfl) rfl #[.agg #[.int .i64 ((rd_T85 l0 x10_1).f0), .int .i64 ((rd_T85 l0 x10_1).f1), .int .i64 ((rd_T85 l0 x10_1).f2)]] rfl (by (try simp only [List.map_toArray, List.map_cons, List.map_nil]); first | done | rfl | (simp only [List.length_drop, List.length_take]; rfl)) ?_; (with_reducible refine (impl_Do_formed.calls kj4 ((rd_T85 l0 x10_1).f0) ((rd_T85 l0 x10_1).f1) ((rd_T85 l0 x10_1).f2) false _ A25.out).mono ?_); rintro e w61 ⟨rfl, hb⟩; refine ⟨_, rfl, ?_⟩; replace BK368 := am_ (blk_below (bu BK368.out) hb); replace HB := am_ (below_step z77_4 hb); (try clear hb); (try clear hb2); (try clear hk); (try clear hi)))
        go_ret
        exact ⟨z77_2, z77_4⟩
     rw [if_neg c4] at H
     exact absurd H (by simp)
    rw [if_neg c3] at H
    exact absurd H (by simp)
   rw [if_neg c2] at H
   have c2b0 : decide (x10_1 < (l0.length : Int)) = false := decide_eq_false c2
   clear c2
   by_cases c62 : x4_1 = true
   ·subst c62
    have H1 : (some false) = some r := by rw [if_pos rfl] at H; exact H
    clear H
    have H := H1
    clear H1
    obtain rfl := Option.some.inj H
    go_wp2
    go_ret
    exact ⟨z77_2, z77_3⟩
   replace c62 := Bool.eq_false_iff.mpr c62
   subst c62
   have H1 : (some (decide ((l0.length : Int) ≤ 7))) = some r := by rw [if_neg (show ¬ (false = true) by decide)] at H; exact H
   clear H
   have H := H1
   clear H1
   obtain rfl := Option.some.inj H
   go_wp2
   go_ret
   exact ⟨z77_2, z77_3⟩

end Go.Proofs.Ytefkbmhkhpekjaa.PB

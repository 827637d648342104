-- Joined by wip/mclaim.py out of YtefkbmhkhpekjaaPBx31, YtefkbmhkhpekjaaPBx133, YtefkbmhkhpekjaaPBx120, YtefkbmhkhpekjaaPBx97, YtefkbmhkhpekjaaPBx98, YtefkbmhkhpekjaaPBx47, YtefkbmhkhpekjaaPBx90, YtefkbmhkhpekjaaPBx82
import Derived.Test.YtefkbmhkhpekjaaPBx0
import Derived.Test.YtefkbmhkhpekjaaPBx77
import Derived.Test.YtefkbmhkhpekjaaPBx78
namespace Go.Proofs.Ytefkbmhkhpekjaa.PB
open Go.RowKit Go.Proofs.YtefkbmhkhpekjaaW.PrintWords Go.Proofs.YtefkbmhkhpekjaaW.PrintLast Go.Proofs.YtefkbmhkhpekjaaW.PrintMore
attribute [local go_sem] max2_int min2_int max_two min_two max_three min_three max_four min_four   -- for this text's walks alone
open Go.Proofs.YtefkbmhkhpekjaaMine
set_option linter.unusedVariables false
set_option linter.unusedSimpArgs false

theorem z31_1 {p : Prop} (h : p := by first | rfl | (simp; done) | (simp [*]; done)) : p := h
theorem z31_2 {p : Prop} (h : p := by first | (with_reducible assumption) | assumption) : p := h
theorem z31_3 {p : Prop} (h : p := by first | rfl | (simp [errW_none, errW_some] <;> rfl) | (simp [*, errW_none, errW_some] <;> rfl)) : p := h
theorem z31_4 {p : Prop} (h : p := by repeat (first | (with_reducible first | exact HB.out | apply below_alloc | apply pw_below_drewN | apply below_drew1) | exact HB.out)) : p := h
theorem z31_5 {p : Prop} (h : p := by repeat (first | (with_reducible first | exact HB.out | apply below_alloc | apply pw_below_drewN | apply below_drew1 | refine below_set ?_ GE371.out) | exact HB.out)) : p := h
theorem z31_6 {p : Prop} (h : p := by repeat (first | (with_reducible first | exact HB.out | apply below_alloc | apply pw_below_drewN | apply below_drew1 | refine below_set ?_ GE371.out | refine below_set ?_ GE375.out) | exact HB.out)) : p := h
theorem z31_7 {p : Prop} (h : p := by (with_reducible repeat (first | refine blk_drewN ?_ _ | refine blk_drew ?_ | refine blk_alloc ?_ _)); refine blk_far ?_ NB371_375.out _; (with_reducible repeat (first | refine blk_drewN ?_ _ | refine blk_drew ?_ | refine blk_alloc ?_ _)); refine blk_far ?_ NB371_375.out _; (with_reducible repeat (first | refine blk_drewN ?_ _ | refine blk_drew ?_ | refine blk_alloc ?_ _)); refine blk_far ?_ NB371_375.out _; (with_reducible repeat (first | refine blk_drewN ?_ _ | refine blk_drew ?_ | refine blk_alloc ?_ _)); exact BK371.out) : p := h
theorem z31_8 {p : Prop} (h : p := by (with_reducible repeat (first | refine blk_drewN ?_ _ | refine blk_drew ?_ | refine blk_alloc ?_ _)); refine blk_put (cs := #[.int .i64 ((rd_T85 (rd_L7 l0_0 x16_1) x29_2).f0), .int .i64 ((rd_T85 (rd_L7 l0_0 x16_1) x29_2).f1), .int .i64 0]) ?_ 2 _ rfl; (with_reducible repeat (first | refine blk_drewN ?_ _ | refine blk_drew ?_ | refine blk_alloc ?_ _)); refine blk_put (cs := #[.int .i64 ((rd_T85 (rd_L7 l0_0 x16_1) x29_2).f0), .int .i64 0, .int .i64 0]) ?_ 1 _ rfl; (with_reducible repeat (first | refine blk_drewN ?_ _ | refine blk_drew ?_ | refine blk_alloc ?_ _)); refine blk_put (cs := #[.int .i64 0, .int .i64 0, .int .i64 0]) ?_ 0 _ rfl; (with_reducible repeat (first | refine blk_drewN ?_ _ | refine blk_drew ?_ | refine blk_alloc ?_ _)); exact BK375.out) : p := h
/-! ### impl_ProgOk: function 31 -/
mutual
def impl_ProgOk.l0 : Nat → Int → Int → List (List (S85)) → Int → Int → Option (Bool)
  | 0, _, _, _, _, _ => none
  | k + 1, x3, x4, x14, x15, x16 => if x16 < x15 then (if 0 ≤ x16 then (if x16 < (x14.length : Int) then ((impl_threadOk.f k (rd_L7 x14 x16)).bind fun t373 => (if t373 = true then (impl_ProgOk.l1 k (wrap64 (x3 + ((rd_L7 x14 x16).length : Int))) x4 x14 x15 x16 (rd_L7 x14 x16) ((rd_L7 x14 x16).length : Int) 0) else (some false))) else (none)) else (none)) else (if x3 ≤ 14 then (some (decide (x4 ≤ 6))) else (some false))
def impl_ProgOk.l1 : Nat → Int → Int → List (List (S85)) → Int → Int → List (S85) → Int → Int → Option (Bool)
  | 0, _, _, _, _, _, _, _, _ => none
  | k + 1, x3, x4, x14, x15, x16, x27, x28, x29 => if x29 < x28 then (if 0 ≤ x29 then (if x29 < (x27.length : Int) then ((impl_Do_uses.f ((rd_T85 x27 x29).f0) ((rd_T85 x27 x29).f1) ((rd_T85 x27 x29).f2)).bind fun t376 => (if t376 = true then (impl_ProgOk.l1 k x3 (wrap64 (x4 + 1)) x14 x15 x16 x27 x28 (wrap64 (x29 + 1))) else (impl_ProgOk.l1 k x3 x4 x14 x15 x16 x27 x28 (wrap64 (x29 + 1))))) else (none)) else (none)) else (impl_ProgOk.l0 k x3 x4 x14 x15 (wrap64 (x16 + 1)))
end
def impl_ProgOk.f (k : Nat) (l0_0 : List (List (S85))) : Option (Bool) := if (l0_0.length : Int) > 3 then (some false) else (impl_ProgOk.l0 k 0 0 l0_0 (l0_0.length : Int) 0)
theorem impl_ProgOk.mono_l : ∀ k, (∀ y0 y1 y2 y3 y4, LeO (impl_ProgOk.l0 k y0 y1 y2 y3 y4) (impl_ProgOk.l0 (k + 1) y0 y1 y2 y3 y4)) ∧ (∀ y0 y1 y2 y3 y4 y5 y6 y7, LeO (impl_ProgOk.l1 k y0 y1 y2 y3 y4 y5 y6 y7) (impl_ProgOk.l1 (k + 1) y0 y1 y2 y3 y4 y5 y6 y7))
  | 0 => ⟨fun _ _ _ _ _ r h => by simp [impl_ProgOk.l0] at h, fun _ _ _ _ _ _ _ _ r h => by simp [impl_ProgOk.l1] at h⟩
  | k + 1 => by
    obtain ⟨ih0, ih1⟩ := impl_ProgOk.mono_l k
    refine ⟨?_, ?_⟩
    · intro y0 y1 y2 y3 y4
      unfold impl_ProgOk.l0
      repeat' first
      | (with_reducible exact ih0 _ _ _ _ _)
      | (with_reducible exact ih1 _ _ _ _ _ _ _ _)
      | (with_reducible exact impl_threadOk.mono _ _)
      | (with_reducible exact LeO.refl _)
      | (with_reducible exact LeO.none _)
      | (with_reducible refine LeO.ite ?_ ?_)
      | (with_reducible refine LeO.bind ?_ (fun _ => ?_))
      | exact ih0 _ _ _ _ _
      | exact ih1 _ _ _ _ _ _ _ _
      | exact impl_threadOk.mono _ _
      | exact LeO.none _
      | refine LeO.ite ?_ ?_
      | refine LeO.bind ?_ (fun _ => ?_)
    · intro y0 y1 y2 y3 y4 y5 y6 y7
      unfold impl_ProgOk.l1
      repeat' first
      | (with_reducible exact ih0 _ _ _ _ _)
      | (with_reducible exact ih1 _ _ _ _ _ _ _ _)
      | (with_reducible exact impl_threadOk.mono _ _)
      | (with_reducible exact LeO.refl _)
      | (with_reducible exact LeO.none _)
      | (with_reducible refine LeO.ite ?_ ?_)
      | (with_reducible refine LeO.bind ?_ (fun _ => ?_))
      | exact ih0 _ _ _ _ _
      | exact ih1 _ _ _ _ _ _ _ _
      | exact impl_threadOk.mono _ _
      | exact LeO.none _
      | refine LeO.ite ?_ ?_
      | refine LeO.bind ?_ (fun _ => ?_)
theorem impl_ProgOk.mono : ∀ a0 k, LeO (impl_ProgOk.f k a0) (impl_ProgOk.f (k + 1) a0) := by
  intro a0 k
  obtain ⟨ih0, ih1⟩ := impl_ProgOk.mono_l k
  unfold impl_ProgOk.f
  repeat' first
      | (with_reducible exact ih0 _ _ _ _ _)
      | (with_reducible exact ih1 _ _ _ _ _ _ _ _)
      | (with_reducible exact impl_threadOk.mono _ _)
      | (with_reducible exact LeO.refl _)
      | (with_reducible exact LeO.none _)
      | (with_reducible refine LeO.ite ?_ ?_)
      | (with_reducible refine LeO.bind ?_ (fun _ => ?_))
      | exact ih0 _ _ _ _ _
      | exact ih1 _ _ _ _ _ _ _ _
      | exact impl_threadOk.mono _ _
      | exact LeO.none _
      | refine LeO.ite ?_ ?_
      | refine LeO.bind ?_ (fun _ => ?_)
set_option maxHeartbeats 8000000 in
set_option maxRecDepth 100000 in
theorem impl_ProgOk.calls (k : Nat) (A0_0 : Option Addr) (c0_0 : Nat) (l0_0 : List (List (S85))) (r : Bool) (w : World) (hr0_0 : Kd.C (Kd.slice 85 k85) w A0_0 l0_0.length l0_0) (hc0_0 : l0_0.length ≤ c0_0) (h : impl_ProgOk.f k l0_0 = some r) :
  Calls Try.prog 31 #[.agg #[.slice A0_0 l0_0.length c0_0]] w fun e w' => e = .returned (.bool r) ∧ Below w.heap.size w w' := by
 have hu35 := Try.underlying35
 have hu85 := Try.underlying85
 have HR0_0 := am_ hr0_0
 have HC0_0 := am_ hc0_0
 clear hr0_0 hc0_0
 have HB := am_ (Below.refl w.heap.size w)
 have H : (if (l0_0.length : Int) > 3 then (some false) else (impl_ProgOk.l0 k 0 0 l0_0 (l0_0.length : Int) 0)) = some r := h
 clear h
 by_cases c2 : (l0_0.length : Int) > 3
 ·rw [if_pos c2] at H
  have c2b0 : decide (3 < (l0_0.length : Int)) = true := decide_eq_true c2
  have c2b1 : decide (3 < l0_0.length) = true := decide_eq_true (by omega)
  clear c2
  obtain rfl := Option.some.inj H
  go_enter Try.func31, Try.ntmps31
  go_wp2_with (first | ((with_reducible refine gate_dst (N := 1) rfl ?_); refine box_event ?hg (N := 1) ?hd (cs := #[.slice A0_0 l0_0.length c0_0]) (t := 35) ?hr ?_; (case hd => rfl); (case hg => rfl); (case hr => first | (go_simp; done) | (go_simp; rfl)); intro gb371 hg w3 hbox hb; have n0_ := am_ (below_step z31_4 hb); have n1_ := am_ (hbox); have n2_ := am_ (by rw [hg]; exact (below_size z31_4) : w.heap.size ≤ gb371); have n3_ := am_ (by rw [hg]; exact (below_size z31_4) : w.heap.size ≤ gb371); clear HB; have HB := n0_; have BK371 := n1_; have GW371 := n2_; have GE371 := n3_; clear n0_ n1_ n2_ n3_; clear hb hbox hg; have hcz4_0 : w3.cell? ⟨gb371, 0, none⟩ = some (.slice A0_0 l0_0.length c0_0) := (blk_cell BK371.out 0).trans rfl; have hfz4_0 := blk_frozen BK371.out 0))
  go_ret
  exact ⟨z31_3, z31_5⟩
 ·rw [if_neg c2] at H
  have c2b0 : decide (3 < (l0_0.length : Int)) = false := decide_eq_false c2
  have c2b1 : decide (3 < l0_0.length) = false := decide_eq_false (by omega)
  clear c2
  have H' := am_ H
  clear H
  go_enter Try.func31, Try.ntmps31
  go_wp2_with (first | ((with_reducible refine gate_dst (N := 1) rfl ?_); refine box_event ?hg (N := 1) ?hd (cs := #[.slice A0_0 l0_0.length c0_0]) (t := 35) ?hr ?_; (case hd => rfl); (case hg => rfl); (case hr => first | (go_simp; done) | (go_simp; rfl)); intro gb371 hg w5 hbox hb; have n0_ := am_ (below_step z31_4 hb); have n1_ := am_ (hbox); have n2_ := am_ (by rw [hg]; exact (below_size z31_4) : w.heap.size ≤ gb371); have n3_ := am_ (by rw [hg]; exact (below_size z31_4) : w.heap.size ≤ gb371); clear HB; have HB := n0_; have BK371 := n1_; have GW371 := n2_; have GE371 := n3_; clear n0_ n1_ n2_ n3_; clear hb hbox hg; have hcz6_0 : w5.cell? ⟨gb371, 0, none⟩ = some (.slice A0_0 l0_0.length c0_0) := (blk_cell BK371.out 0).trans rfl; have hfz6_0 := blk_frozen BK371.out 0))
  go_loopg [3, 4, 16] k (fun kq v3 v4 v16 w' => ∃ (x3_1 : Int) (x4_1 : Int) (x16_1 : Int), v3 = .int .i64 x3_1 ∧ v4 = .int .i64 x4_1 ∧ v16 = .int .i64 x16_1 ∧ Aside0 (impl_ProgOk.l0 kq x3_1 x4_1 l0_0 (l0_0.length : Int) x16_1 = some r) ∧ Aside0 (kq ≤ k) ∧ Aside0 (w'.heap[gb371]? = some (.cells #[(.slice A0_0 l0_0.length c0_0)] 35 (0, 0))) ∧ Aside0 (Below w.heap.size w w'))
  case atStart => exact ⟨(0), (0), (0), z31_1, z31_1, z31_1, H', ⟨Nat.le_refl _⟩, ⟨bu BK371.out⟩, ⟨z31_5⟩⟩
  case round =>
   clear H'
   obtain ⟨x3_1, x4_1, x16_1, rfl, rfl, rfl, HA, HK1, BK371, HB⟩ := hrel
   cases gk with
   | zero => exact absurd HA.out (by simp [impl_ProgOk.l0])
   | succ k1 =>
    have H := HA.out
    clear HA
    simp only [impl_ProgOk.l0] at H
    by_cases c7 : x16_1 < (l0_0.length : Int)
    ·rw [if_pos c7] at H
     have c7b0 : decide (x16_1 < (l0_0.length : Int)) = true := decide_eq_true c7
     clear c7
     by_cases c8 : 0 ≤ x16_1
     ·rw [if_pos c8] at H
      have c8b0 : decide (0 ≤ x16_1) = true := decide_eq_true c8
      clear c8
      by_cases c9 : x16_1 < (l0_0.length : Int)
      ·rw [if_pos c9] at H
       have c9b0 : decide (x16_1 < (l0_0.length : Int)) = true := decide_eq_true c9
       clear c9
       replace H := Option.bind_eq_some_iff.mp H
       obtain ⟨t373, A100, H⟩ := H
       replace H : (if t373 = true then (impl_ProgOk.l1 k1 (wrap64 (x3_1 + ((rd_L7 l0_0 x16_1).length : Int))) x4_1 l0_0 (l0_0.length : Int) x16_1 (rd_L7 l0_0 x16_1) ((rd_L7 l0_0 x16_1).length : Int) 0) else (some false)) = some r := H
       have A10 := am_ A100
       clear A100
       by_cases c11 : t373 = true
       ·subst c11
        have H1 : (impl_ProgOk.l1 k1 (wrap64 (x3_1 + ((rd_L7 l0_0 x16_1).length : Int))) x4_1 l0_0 (l0_0.length : Int) x16_1 (rd_L7 l0_0 x16_1) ((rd_L7 l0_0 x16_1).length : Int) 0) = some r := by rw [if_pos rfl] at H; exact H
        clear H
        have H := H1
        clear H1
        have H' := am_ H
        clear H
        have p372 : 0 ≤ (x16_1 : Int) := of_decide_eq_true z31_2
        have q372 : x16_1 < (l0_0.length : Int) := of_decide_eq_true z31_2
        obtain ⟨ad372, A372_0, c372_0, e372, hx372_0, hl372_0, hi372_0⟩ := at_L7 HR0_0.out x16_1 p372 q372
        cases e372
        replace hx372_0 := (HB.out.cell (World.block_lt_of_cell? w _ hx372_0)).trans hx372_0
        have HR372_0 := am_ hi372_0
        have HC372_0 := am_ hl372_0
        clear hi372_0 hl372_0
        replace p372 := eq_true p372
        replace q372 := eq_true q372
        go_wp2_with (first | ((with_reducible refine gate_callee (f := 77) rfl ?_); refine goesL_ (some 21) rfl rfl Try.func77 (by kernel_rfl) rfl #[.slice A372_0 (rd_L7 l0_0 x16_1).length c372_0] rfl (by (try simp only [List.map_toArray, List.map_cons, List.map_nil]); first | done | rfl | (simp only [List.length_drop, List.length_take]; rfl)) ?_; (with_reducible refine (impl_threadOk.calls k1 _ _ (rd_L7 l0_0 x16_1) true _ ?side1 ?side2 A10.out).mono ?_); (case side1 => repeat (first | exact (Kd.C_below HR372_0.out HB.out) | (with_reducible refine Kd.C_alloc ?_ _) | (with_reducible refine Kd.C_drewN ?_ _) | (with_reducible refine Kd.C_drew ?_))); (case side2 => exact HC372_0.out); rintro e w12 ⟨rfl, hb⟩; refine ⟨_, rfl, ?_⟩; have n0_ := am_ (blk_below (bu BK371.out) hb); have n1_ := am_ (below_step z31_5 hb); clear BK371 HB; have BK371 := n0_; have HB := n1_; clear n0_ n1_; (try clear hb); (try clear hb2); (try clear hk); (try clear hi)))
        go_loopg [4, 29] k1 (fun kq v4 v29 w' => ∃ (x4_2 : Int) (x29_2 : Int), v4 = .int .i64 x4_2 ∧ v29 = .int .i64 x29_2 ∧ Aside0 (impl_ProgOk.l1 kq (wrap64 (x3_1 + ((rd_L7 l0_0 x16_1).length : Int))) x4_2 l0_0 (l0_0.length : Int) x16_1 (rd_L7 l0_0 x16_1) ((rd_L7 l0_0 x16_1).length : Int) x29_2 = some r) ∧ Aside0 (kq ≤ k1) ∧ Aside0 (w'.heap[gb371]? = some (.cells #[(.slice (some ad372) l0_0.length c0_0)] 35 (0, 0))) ∧ Aside0 (Below w.heap.size w w'))
        case atStart => exact ⟨(x4_1), (0), z31_1, z31_1, H', ⟨Nat.le_refl _⟩, ⟨bu BK371.out⟩, ⟨z31_5⟩⟩
        case round =>
         clear H'
         obtain ⟨x4_2, x29_2, rfl, rfl, HA, HK2, BK371, HB⟩ := hrel
         cases gk with
         | zero => exact absurd HA.out (by simp [impl_ProgOk.l1])
         | succ k2 =>
          have H := HA.out
          clear HA
          simp only [impl_ProgOk.l1] at H
          by_cases c13 : x29_2 < ((rd_L7 l0_0 x16_1).length : Int)
          ·rw [if_pos c13] at H
           have c13b0 : decide (x29_2 < ((rd_L7 l0_0 x16_1).length : Int)) = true := decide_eq_true c13
           clear c13
           by_cases c14 : 0 ≤ x29_2
           ·rw [if_pos c14] at H
            have c14b0 : decide (0 ≤ x29_2) = true := decide_eq_true c14
            clear c14
            by_cases c15 : x29_2 < ((rd_L7 l0_0 x16_1).length : Int)
            ·rw [if_pos c15] at H
             have c15b0 : decide (x29_2 < ((rd_L7 l0_0 x16_1).length : Int)) = true := decide_eq_true c15
             clear c15
             replace H := Option.bind_eq_some_iff.mp H
             obtain ⟨t376, A160, H⟩ := H
             replace H : (if t376 = true then (impl_ProgOk.l1 k2 (wrap64 (x3_1 + ((rd_L7 l0_0 x16_1).length : Int))) (wrap64 (x4_2 + 1)) l0_0 (l0_0.length : Int) x16_1 (rd_L7 l0_0 x16_1) ((rd_L7 l0_0 x16_1).length : Int) (wrap64 (x29_2 + 1))) else (impl_ProgOk.l1 k2 (wrap64 (x3_1 + ((rd_L7 l0_0 x16_1).length : Int))) x4_2 l0_0 (l0_0.length : Int) x16_1 (rd_L7 l0_0 x16_1) ((rd_L7 l0_0 x16_1).length : Int) (wrap64 (x29_2 + 1)))) = some r := H
             have A16 := am_ A160
             clear A160
             by_cases c17 : t376 = true
             ·subst c17
              have H1 : (impl_ProgOk.l1 k2 (wrap64 (x3_1 + ((rd_L7 l0_0 x16_1).length : Int))) (wrap64 (x4_2 + 1)) l0_0 (l0_0.length : Int) x16_1 (rd_L7 l0_0 x16_1) ((rd_L7 l0_0 x16_1).length : Int) (wrap64 (x29_2 + 1))) = some r := by rw [if_pos rfl] at H; exact H
              clear H
              have H := H1
              clear H1
              have H' := am_ H
              clear H
              have p374 : 0 ≤ (x29_2 : Int) := of_decide_eq_true z31_2
              have q374 : x29_2 < ((rd_L7 l0_0 x16_1).length : Int) := of_decide_eq_true z31_2
              obtain ⟨ad374, e374, hx374_0, hx374_1, hx374_2⟩ := at_T85 HR372_0.out x29_2 p374 q374
              cases e374
              replace hx374_0 := (HB.out.cell (World.block_lt_of_cell? w _ hx374_0)).trans hx374_0
              replace hx374_1 := (HB.out.cell (World.block_lt_of_cell? w _ hx374_1)).trans hx374_1
              replace hx374_2 := (HB.out.cell (World.block_lt_of_cell? w _ hx374_2)).trans hx374_2
              replace p374 := eq_true p374
              replace q374 := eq_true q374
              go_wp2_with (first | ((with_reducible refine gate_dst (N := 8) rfl ?_); refine box_event ?hg (N := 8) ?hd (cs := #[.int .i64 0, .int .i64 0, .int .i64 0]) (t := 85) ?hr ?_; (case hd => rfl); (case hg => rfl); (case hr => first | (go_simp; done) | (go_simp; rfl)); intro gb375 hg w18 hbox hb; have n0_ := am_ (blk_below (bu BK371.out) hb); have n1_ := am_ (below_step z31_5 hb); have n2_ := am_ (hbox); have n3_ := am_ (by rw [hg]; exact (below_size z31_5) : w.heap.size ≤ gb375); have n4_ := am_ (by rw [hg]; exact (below_size z31_5) : w.heap.size ≤ gb375); have n5_ := am_ (by rw [hg]; exact Nat.ne_of_lt (blk_lt (bu BK371.out)) : gb371 ≠ gb375); have n6_ := am_ (by rw [hg]; exact Nat.ne_of_gt (blk_lt (bu BK371.out)) : gb375 ≠ gb371); clear BK371 HB; have BK371 := n0_; have HB := n1_; have BK375 := n2_; have GW375 := n3_; have GE375 := n4_; have NB371_375 := n5_; have NB375_371 := n6_; clear n0_ n1_ n2_ n3_ n4_ n5_ n6_; clear hb hbox hg; have hnb19 := NB375_371.out; have hnc19 := NB371_375.out; have hcz20_0 : w18.cell? ⟨gb375, 0, none⟩ = some (.int .i64 0) := (blk_cell BK375.out 0).trans rfl; have hcz20_1 : w18.cell? ⟨gb375, 1, none⟩ = some (.int .i64 0) := (blk_cell BK375.out 1).trans rfl; have hcz20_2 : w18.cell? ⟨gb375, 2, none⟩ = some (.int .i64 0) := (blk_cell BK375.out 2).trans rfl; have hfz20_0 := blk_frozen BK375.out 0; have hfz20_1 := blk_frozen BK375.out 1; have hfz20_2 := blk_frozen BK375.out 2) | ((with_reducible refine gate_callee (f := 78) rfl ?_); refine goesL_ (some 34) rfl rfl Try.func78 (by kernel_rfl) rfl #[.agg #[.int .i64 ((rd_T85 (rd_L7 l0_0 x16_1) x29_2).f0), .int .i64 ((rd_T85 (rd_L7 l0_0 x16_1) x29_2).f1), .int .i64 ((rd_T85 (rd_L7 l0_0 x16_1) x29_2).f2)]] rfl (by (try simp only [List.map_toArray, List.map_cons, List.map_nil]); first | done | rfl | (simp only [List.length_drop, List.length_take]; rfl)) ?_; (with_reducible refine (impl_Do_uses.calls ((rd_T85 (rd_L7 l0_0 x16_1) x29_2).f0) ((rd_T85 (rd_L7 l0_0 x16_1) x29_2).f1) ((rd_T85 (rd_L7 l0_0 x16_1) x29_2).f2) true _ A16.out).mono ?_); rintro e w21 ⟨rfl, hb⟩; refine ⟨_, rfl, ?_⟩; have n0_ := am_ (blk_below (g := gb371) (o := .cells #[.slice (some ad372) l0_0.length c0_0] 35 (0, 0)) z31_7 hb); have n1_ := am_ (blk_below (g := gb375) (o := .cells #[.int .i64 ((rd_T85 (rd_L7 l0_0 x16_1) x29_2).f0), .int .i64 ((rd_T85 (rd_L7 l0_0 x16_1) x29_2).f1), .int .i64 ((rd_T85 (rd_L7 l0_0 x16_1) x29_2).f2)] 85 (0, 0)) z31_8 hb); have n2_ := am_ (below_step z31_6 hb); clear BK371 BK375 HB; have BK371 := n0_; have BK375 := n1_; have HB := n2_; clear n0_ n1_ n2_; (try clear hb); (try clear hb2); (try clear hk); (try clear hi)))
              go_roundg k2
              case measure => have := HK1.out; have := HK2.out; omega
              case rel => exact ⟨(wrap64 (x4_2 + 1)), (wrap64 (x29_2 + 1)), z31_1, z31_1, H', ⟨by have := HK1.out; have := HK2.out; omega⟩, ⟨bu BK371.out⟩, ⟨z31_6⟩⟩
             ·replace c17 := Bool.eq_false_iff.mpr c17
              subst c17
              have H1 : (impl_ProgOk.l1 k2 (wrap64 (x3_1 + ((rd_L7 l0_0 x16_1).length : Int))) x4_2 l0_0 (l0_0.length : Int) x16_1 (rd_L7 l0_0 x16_1) ((rd_L7 l0_0 x16_1).length : Int) (wrap64 (x29_2 + 1))) = some r := by rw [if_neg (show ¬ (false = true) by decide)] at H; exact H
              clear H
              have H := H1
              clear H1
              have H' := am_ H
              clear H
              have p374 : 0 ≤ (x29_2 : Int) := of_decide_eq_true z31_2
              have q374 : x29_2 < ((rd_L7 l0_0 x16_1).length : Int) := of_decide_eq_true z31_2
              obtain ⟨ad374, e374, hx374_0, hx374_1, hx374_2⟩ := at_T85 HR372_0.out x29_2 p374 q374
              cases e374
              replace hx374_0 := (HB.out.cell (World.block_lt_of_cell? w _ hx374_0)).trans hx374_0
              replace hx374_1 := (HB.out.cell (World.block_lt_of_cell? w _ hx374_1)).trans hx374_1
              replace hx374_2 := (HB.out.cell (World.block_lt_of_cell? w _ hx374_2)).trans hx374_2
              replace p374 := eq_true p374
              replace q374 := eq_true q374
              go_wp2_with (first | ((with_reducible refine gate_dst (N := 8) rfl ?_); refine box_event ?hg (N := 8) ?hd (cs := #[.int .i64 0, .int .i64 0, .int .i64 0]) (t := 85) ?hr ?_; (case hd => rfl); (case hg => rfl); (case hr => first | (go_simp; done) | (go_simp; rfl)); intro gb375 hg w22 hbox hb; have n0_ := am_ (blk_below (bu BK371.out) hb); have n1_ := am_ (below_step z31_5 hb); have n2_ := am_ (hbox); have n3_ := am_ (by rw [hg]; exact (below_size z31_5) : w.heap.size ≤ gb375); have n4_ := am_ (by rw [hg]; exact (below_size z31_5) : w.heap.size ≤ gb375); have n5_ := am_ (by rw [hg]; exact Nat.ne_of_lt (blk_lt (bu BK371.out)) : gb371 ≠ gb375); have n6_ := am_ (by rw [hg]; exact Nat.ne_of_gt (blk_lt (bu BK371.out)) : gb375 ≠ gb371); clear BK371 HB; have BK371 := n0_; have HB := n1_; have BK375 := n2_; have GW375 := n3_; have GE375 := n4_; have NB371_375 := n5_; have NB375_371 := n6_; clear n0_ n1_ n2_ n3_ n4_ n5_ n6_; clear hb hbox hg; have hnb23 := NB375_371.out; have hnc23 := NB371_375.out; have hcz24_0 : w22.cell? ⟨gb375, 0, none⟩ = some (.int .i64 0) := (blk_cell BK375.out 0).trans rfl; have hcz24_1 : w22.cell? ⟨gb375, 1, none⟩ = some (.int .i64 0) := (blk_cell BK375.out 1).trans rfl; have hcz24_2 : w22.cell? ⟨gb375, 2, none⟩ = some (.int .i64 0) := (blk_cell BK375.out 2).trans rfl; have hfz24_0 := blk_frozen BK375.out 0; have hfz24_1 := blk_frozen BK375.out 1; have hfz24_2 := blk_frozen BK375.out 2) | ((with_reducible refine gate_callee (f := 78) rfl ?_); refine goesL_ (some 34) rfl rfl Try.func78 (by kernel_rfl) rfl #[.agg #[.int .i64 ((rd_T85 (rd_L7 l0_0 x16_1) x29_2).f0), .int .i64 ((rd_T85 (rd_L7 l0_0 x16_1) x29_2).f1), .int .i64 ((rd_T85 (rd_L7 l0_0 x16_1) x29_2).f2)]] rfl (by (try simp only [List.map_toArray, List.map_cons, List.map_nil]); first | done | rfl | (simp only [List.length_drop, List.length_take]; rfl)) ?_; (with_reducible refine (impl_Do_uses.calls ((rd_T85 (rd_L7 l0_0 x16_1) x29_2).f0) ((rd_T85 (rd_L7 l0_0 x16_1) x29_2).f1) ((rd_T85 (rd_L7 l0_0 x16_1) x29_2).f2) false _ A16.out).mono ?_); rintro e w25 ⟨rfl, hb⟩; refine ⟨_, rfl, ?_⟩; have n0_ := am_ (blk_below (g := gb371) (o := .cells #[.slice (some ad372) l0_0.length c0_0] 35 (0, 0)) z31_7 hb); have n1_ := am_ (blk_below (g := gb375) (o := .cells #[.int .i64 ((rd_T85 (rd_L7 l0_0 x16_1) x29_2).f0), .int .i64 ((rd_T85 (rd_L7 l0_0 x16_1) x29_2).f1), .int .i64 ((rd_T85 (rd_L7 l0_0 x16_1) x29_2).f2)] 85 (0, 0)) z31_8 hb); have n2_ := am_ (below_step z31_6 hb); clear BK371 BK375 HB; have BK371 := n0_; have BK375 := n1_; have HB := n2_; clear n0_ n1_ n2_; (try clear hb); (try clear hb2); (try clear hk); (try clear hi)))
              go_roundg k2
              case measure => have := HK1.out; have := HK2.out; omega
              case rel => exact ⟨(x4_2), (wrap64 (x29_2 + 1)), z31_1, z31_1, H', ⟨by have := HK1.out; have := HK2.out; omega⟩, ⟨bu BK371.out⟩, ⟨z31_6⟩⟩
            ·rw [if_neg c15] at H
             exact absurd H (by simp)
           ·rw [if_neg c14] at H
            exact absurd H (by simp)
          ·rw [if_neg c13] at H
           have c13b0 : decide (x29_2 < ((rd_L7 l0_0 x16_1).length : Int)) = false := decide_eq_false c13
           clear c13
           have H' := am_ H
           clear H
           go_wp2
           go_roundg k2
           case measure => have := HK1.out; have := HK2.out; omega
           case rel => exact ⟨((wrap64 (x3_1 + ((rd_L7 l0_0 x16_1).length : Int)))), (x4_2), (wrap64 (x16_1 + 1)), z31_1, z31_1, z31_1, H', ⟨by have := HK1.out; have := HK2.out; omega⟩, ⟨bu BK371.out⟩, ⟨z31_5⟩⟩
       ·replace c11 := Bool.eq_false_iff.mpr c11
        subst c11
        have H1 : (some false) = some r := by rw [if_neg (show ¬ (false = true) by decide)] at H; exact H
        clear H
        have H := H1
        clear H1
        obtain rfl := Option.some.inj H
        have p372 : 0 ≤ (x16_1 : Int) := of_decide_eq_true z31_2
        have q372 : x16_1 < (l0_0.length : Int) := of_decide_eq_true z31_2
        obtain ⟨ad372, A372_0, c372_0, e372, hx372_0, hl372_0, hi372_0⟩ := at_L7 HR0_0.out x16_1 p372 q372
        cases e372
        replace hx372_0 := (HB.out.cell (World.block_lt_of_cell? w _ hx372_0)).trans hx372_0
        have HR372_0 := am_ hi372_0
        have HC372_0 := am_ hl372_0
        clear hi372_0 hl372_0
        replace p372 := eq_true p372
        replace q372 := eq_true q372
        go_wp2_with (first | ((with_reducible refine gate_callee (f := 77) rfl ?_); refine goesL_ (some 21) rfl rfl Try.func77 (by kernel_rfl) rfl #[.slice A372_0 (rd_L7 l0_0 x16_1).length c372_0] rfl (by (try simp only [List.map_toArray, List.map_cons, List.map_nil]); first | done | rfl | (simp only [List.length_drop, List.length_take]; rfl)) ?_; (with_reducible refine (impl_threadOk.calls k1 _ _ (rd_L7 l0_0 x16_1) false _ ?side1 ?side2 A10.out).mono ?_); (case side1 => repeat (first | exact (Kd.C_below HR372_0.out HB.out) | (with_reducible refine Kd.C_alloc ?_ _) | (with_reducible refine Kd.C_drewN ?_ _) | (with_reducible refine Kd.C_drew ?_))); (case side2 => exact HC372_0.out); rintro e w26 ⟨rfl, hb⟩; refine ⟨_, rfl, ?_⟩; have n0_ := am_ (blk_below (bu BK371.out) hb); have n1_ := am_ (below_step z31_5 hb); clear BK371 HB; have BK371 := n0_; have HB := n1_; clear n0_ n1_; (try clear hb); (try clear hb2); (try clear hk); (try clear hi)))
        go_ret
        exact ⟨z31_3, z31_5⟩
      ·rw [if_neg c9] at H
       exact absurd H (by simp)
     ·rw [if_neg c8] at H
      exact absurd H (by simp)
    ·rw [if_neg c7] at H
     have c7b0 : decide (x16_1 < (l0_0.length : Int)) = false := decide_eq_false c7
     clear c7
     by_cases c27 : x3_1 ≤ 14
     ·rw [if_pos c27] at H
      have c27b0 : decide (x3_1 ≤ 14) = true := decide_eq_true c27
      clear c27
      obtain rfl := Option.some.inj H
      go_wp2
      go_ret
      exact ⟨z31_3, z31_5⟩
     ·rw [if_neg c27] at H
      have c27b0 : decide (x3_1 ≤ 14) = false := decide_eq_false c27
      clear c27
      obtain rfl := Option.some.inj H
      go_wp2
      go_ret
      exact ⟨z31_3, z31_5⟩

end Go.Proofs.Ytefkbmhkhpekjaa.PB

namespace Go.Proofs.Ytefkbmhkhpekjaa.PB
open Go.RowKit Go.Proofs.YtefkbmhkhpekjaaW.PrintWords Go.Proofs.YtefkbmhkhpekjaaW.PrintLast Go.Proofs.YtefkbmhkhpekjaaW.PrintMore
attribute [local go_sem] max2_int min2_int max_two min_two max_three min_three max_four min_four   -- for this text's walks alone
open Go.Proofs.YtefkbmhkhpekjaaMine
set_option linter.unusedVariables false
set_option linter.unusedSimpArgs false

theorem z133_1 {p : Prop} (h : p := by first | rfl | (simp; done) | (simp [*]; done)) : p := h
theorem z133_2 {p : Prop} (h : p := by first | (with_reducible assumption) | assumption) : p := h
theorem z133_3 {p : Prop} (h : p := by repeat (first | exact Drawn0.refl _ | apply Drawn0.step)) : p := h
/-! ### slices_Index_int_int: function 133 -/
def slices_Index_int_int.l0 : Nat → List Int → Int → Int → Int → Option (Int)
  | 0, _, _, _, _ => none
  | k + 1, x0, x1, x7, x8 => if x8 < x7 then (if 0 ≤ x8 then (if x8 < (x0.length : Int) then (if x1 = (rd x0 x8) then (some x8) else (slices_Index_int_int.l0 k x0 x1 x7 (wrap64 (x8 + 1)))) else (none)) else (none)) else (some (-1))
def slices_Index_int_int.f (k : Nat) (l0 : List Int) (a1 : Int) : Option (Int) := slices_Index_int_int.l0 k l0 a1 (l0.length : Int) 0
theorem slices_Index_int_int.mono_l : ∀ k, (∀ y0 y1 y2 y3, LeO (slices_Index_int_int.l0 k y0 y1 y2 y3) (slices_Index_int_int.l0 (k + 1) y0 y1 y2 y3))
  | 0 => fun _ _ _ _ r h => by simp [slices_Index_int_int.l0] at h
  | k + 1 => by
    have ih0 := slices_Index_int_int.mono_l k
    · intro y0 y1 y2 y3
      unfold slices_Index_int_int.l0
      repeat' first
      | (with_reducible exact ih0 _ _ _ _)
      | (with_reducible exact LeO.refl _)
      | (with_reducible exact LeO.none _)
      | (with_reducible refine LeO.ite ?_ ?_)
      | (with_reducible refine LeO.bind ?_ (fun _ => ?_))
      | exact ih0 _ _ _ _
      | exact LeO.none _
      | refine LeO.ite ?_ ?_
      | refine LeO.bind ?_ (fun _ => ?_)
theorem slices_Index_int_int.mono : ∀ a0 a1 k, LeO (slices_Index_int_int.f k a0 a1) (slices_Index_int_int.f (k + 1) a0 a1) := by
  intro a0 a1 k
  have ih0 := slices_Index_int_int.mono_l k
  unfold slices_Index_int_int.f
  repeat' first
      | (with_reducible exact ih0 _ _ _ _)
      | (with_reducible exact LeO.refl _)
      | (with_reducible exact LeO.none _)
      | (with_reducible refine LeO.ite ?_ ?_)
      | (with_reducible refine LeO.bind ?_ (fun _ => ?_))
      | exact ih0 _ _ _ _
      | exact LeO.none _
      | refine LeO.ite ?_ ?_
      | refine LeO.bind ?_ (fun _ => ?_)
set_option maxHeartbeats 8000000 in
set_option maxRecDepth 100000 in
theorem slices_Index_int_int.calls (k : Nat) (A0 : Option Addr) (c0 : Nat) (l0 : List Int) (a1 : Int) (r : Int) (w : World) (hr0 : Kd.C (Kd.int .i64) w A0 l0.length l0) (hc0 : l0.length ≤ c0) (h : slices_Index_int_int.f k l0 a1 = some r) :
  Calls Try.prog 133 #[.slice A0 l0.length c0, .int .i64 a1] w fun e w' => e = .returned (.int .i64 r) ∧ Drawn0 w w' := by
 have HR0 := am_ hr0
 have HC0 := am_ hc0
 clear hr0 hc0
 have H : (slices_Index_int_int.l0 k l0 a1 (l0.length : Int) 0) = some r := h
 clear h
 have H' := am_ H
 clear H
 go_enter Try.func133, Try.ntmps133
 go_wp2
 go_loopg [8] k (fun kq v8 w' => ∃ (x8_1 : Int), v8 = .int .i64 x8_1 ∧ Aside0 (slices_Index_int_int.l0 kq l0 a1 (l0.length : Int) x8_1 = some r) ∧ Aside0 (kq ≤ k) ∧ Drawn0 w w')
 case atStart => exact ⟨(0), z133_1, H', ⟨Nat.le_refl _⟩, z133_3⟩
 case round =>
  clear H'
  obtain ⟨x8_1, rfl, HA, HK1, ⟨m1, rfl⟩⟩ := hrel
  cases gk with
  | zero => exact absurd HA.out (by simp [slices_Index_int_int.l0])
  | succ k1 =>
   have H := HA.out
   clear HA
   simp only [slices_Index_int_int.l0] at H
   by_cases c3 : x8_1 < (l0.length : Int)
   ·rw [if_pos c3] at H
    have c3b0 : decide (x8_1 < (l0.length : Int)) = true := decide_eq_true c3
    clear c3
    by_cases c4 : 0 ≤ x8_1
    ·rw [if_pos c4] at H
     have c4b0 : decide (0 ≤ x8_1) = true := decide_eq_true c4
     clear c4
     by_cases c5 : x8_1 < (l0.length : Int)
     ·rw [if_pos c5] at H
      have c5b0 : decide (x8_1 < (l0.length : Int)) = true := decide_eq_true c5
      clear c5
      by_cases c6 : a1 = (rd l0 x8_1)
      ·rw [if_pos c6] at H
       have c6b0 : (a1 == (rd l0 x8_1)) = true := beq_iff_eq.mpr c6
       have c6b1 : (a1 != (rd l0 x8_1)) = false := bne_eq_false_iff_eq.mpr c6
       clear c6
       obtain rfl := Option.some.inj H
       have p456 : 0 ≤ (x8_1 : Int) := of_decide_eq_true z133_2
       have q456 : x8_1 < (l0.length : Int) := of_decide_eq_true z133_2
       obtain ⟨ad456, e456, hx456_0⟩ := Kd.at_int HR0.out x8_1 p456 q456
       cases e456
       replace p456 := eq_true p456
       replace q456 := eq_true q456
       go_wp2
       go_ret
       exact ⟨z133_1, z133_3⟩
      ·rw [if_neg c6] at H
       have c6b0 : (a1 == (rd l0 x8_1)) = false := beq_eq_false_iff_ne.mpr c6
       have c6b1 : (a1 != (rd l0 x8_1)) = true := bne_iff_ne.mpr c6
       have H' := am_ H
       clear H
       have p456 : 0 ≤ (x8_1 : Int) := of_decide_eq_true z133_2
       have q456 : x8_1 < (l0.length : Int) := of_decide_eq_true z133_2
       obtain ⟨ad456, e456, hx456_0⟩ := Kd.at_int HR0.out x8_1 p456 q456
       cases e456
       replace p456 := eq_true p456
       replace q456 := eq_true q456
       go_wp2
       go_roundg k1
       case measure => have := HK1.out; omega
       case rel => exact ⟨(wrap64 (x8_1 + 1)), z133_1, H', ⟨by have := HK1.out; omega⟩, z133_3⟩
     ·rw [if_neg c5] at H
      exact absurd H (by simp)
    ·rw [if_neg c4] at H
     exact absurd H (by simp)
   ·rw [if_neg c3] at H
    have c3b0 : decide (x8_1 < (l0.length : Int)) = false := decide_eq_false c3
    clear c3
    obtain rfl := Option.some.inj H
    go_wp2
    go_ret
    exact ⟨z133_1, z133_3⟩

end Go.Proofs.Ytefkbmhkhpekjaa.PB

namespace Go.Proofs.Ytefkbmhkhpekjaa.PB
open Go.RowKit Go.Proofs.YtefkbmhkhpekjaaW.PrintWords Go.Proofs.YtefkbmhkhpekjaaW.PrintLast Go.Proofs.YtefkbmhkhpekjaaW.PrintMore
attribute [local go_sem] max2_int min2_int max_two min_two max_three min_three max_four min_four   -- for this text's walks alone
open Go.Proofs.YtefkbmhkhpekjaaMine
set_option linter.unusedVariables false
set_option linter.unusedSimpArgs false

/-! ### slices_Contains_int_int: function 120 -/
def slices_Contains_int_int.f (k : Nat) (l0 : List Int) (a1 : Int) : Option (Bool) := (slices_Index_int_int.f k l0 a1).bind fun t457 => (some (decide (t457 ≥ 0)))
theorem slices_Contains_int_int.mono : ∀ a0 a1 k, LeO (slices_Contains_int_int.f k a0 a1) (slices_Contains_int_int.f (k + 1) a0 a1) := by
  intro a0 a1 k
  unfold slices_Contains_int_int.f
  repeat' first
      | (with_reducible exact slices_Index_int_int.mono _ _ _)
      | (with_reducible exact LeO.refl _)
      | (with_reducible exact LeO.none _)
      | (with_reducible refine LeO.ite ?_ ?_)
      | (with_reducible refine LeO.bind ?_ (fun _ => ?_))
      | exact slices_Index_int_int.mono _ _ _
      | exact LeO.none _
      | refine LeO.ite ?_ ?_
      | refine LeO.bind ?_ (fun _ => ?_)
set_option maxHeartbeats 8000000 in
set_option maxRecDepth 100000 in
theorem slices_Contains_int_int.calls (k : Nat) (A0 : Option Addr) (c0 : Nat) (l0 : List Int) (a1 : Int) (r : Bool) (w : World) (hr0 : Kd.C (Kd.int .i64) w A0 l0.length l0) (hc0 : l0.length ≤ c0) (h : slices_Contains_int_int.f k l0 a1 = some r) :
  Calls Try.prog 120 #[.slice A0 l0.length c0, .int .i64 a1] w fun e w' => e = .returned (.bool r) ∧ Drawn0 w w' := by
 have HR0 := am_ hr0
 have HC0 := am_ hc0
 clear hr0 hc0
 have H : ((slices_Index_int_int.f k l0 a1).bind fun t457 => (some (decide (t457 ≥ 0)))) = some r := h
 clear h
 replace H := Option.bind_eq_some_iff.mp H
 obtain ⟨t457, A30, H⟩ := H
 replace H : (some (decide (t457 ≥ 0))) = some r := H
 have A3 := am_ A30
 clear A30
 obtain rfl := Option.some.inj H
 go_enter Try.func120, Try.ntmps120
 go_wp2_with (first | ((with_reducible refine gate_callee (f := 133) rfl ?_); refine goesL_ (some 7) rfl rfl Try.func133 (by kernel_rfl) rfl #[.slice A0 l0.length c0, .int .i64 a1] rfl (by (try simp only [List.map_toArray, List.map_cons, List.map_nil]); first | done | rfl | (simp only [List.length_drop, List.length_take]; rfl)) ?_; (with_reducible refine (slices_Index_int_int.calls k _ _ l0 a1 t457 _ ?side1 ?side2 A3.out).mono ?_); (case side1 => repeat (first | exact HR0.out | (with_reducible refine Kd.C_alloc ?_ _) | (with_reducible refine Kd.C_drewN ?_ _) | (with_reducible refine Kd.C_drew ?_))); (case side2 => exact HC0.out); rintro e w' ⟨rfl, ⟨nd, rfl⟩⟩; refine ⟨_, rfl, ?_⟩))
 go_ret
 exact ⟨by first | rfl | (simp; done) | (simp [*]; done), by repeat (first | exact Drawn0.refl _ | apply Drawn0.step)⟩

end Go.Proofs.Ytefkbmhkhpekjaa.PB

namespace Go.Proofs.Ytefkbmhkhpekjaa.PB
open Go.RowKit Go.Proofs.YtefkbmhkhpekjaaW.PrintWords Go.Proofs.YtefkbmhkhpekjaaW.PrintLast Go.Proofs.YtefkbmhkhpekjaaW.PrintMore
attribute [local go_sem] max2_int min2_int max_two min_two max_three min_three max_four min_four   -- for this text's walks alone
open Go.Proofs.YtefkbmhkhpekjaaMine
set_option linter.unusedVariables false
set_option linter.unusedSimpArgs false

theorem z97_1 {p : Prop} (h : p := by first | rfl | (simp; done) | (simp [*]; done)) : p := h
theorem z97_2 {p : Prop} (h : p := by repeat (first | exact Drawn0.refl _ | apply Drawn0.step)) : p := h
/-! ### impl_isRow: function 97 -/
def impl_isRow.l0 : Nat → List Int → Int → Int → Option (Bool)
  | 0, _, _, _ => none
  | k + 1, x0, x10, x11 => if x11 < x10 then ((slices_Contains_int_int.f k x0 x11).bind fun t1006 => (if t1006 = true then (impl_isRow.l0 k x0 x10 (wrap64 (x11 + 1))) else (some false))) else (some true)
def impl_isRow.f (k : Nat) (l0 : List Int) (a1 : Int) : Option (Bool) := if (l0.length : Int) = a1 then (impl_isRow.l0 k l0 a1 0) else (some false)
theorem impl_isRow.mono_l : ∀ k, (∀ y0 y1 y2, LeO (impl_isRow.l0 k y0 y1 y2) (impl_isRow.l0 (k + 1) y0 y1 y2))
  | 0 => fun _ _ _ r h => by simp [impl_isRow.l0] at h
  | k + 1 => by
    have ih0 := impl_isRow.mono_l k
    · intro y0 y1 y2
      unfold impl_isRow.l0
      repeat' first
      | (with_reducible exact ih0 _ _ _)
      | (with_reducible exact slices_Contains_int_int.mono _ _ _)
      | (with_reducible exact LeO.refl _)
      | (with_reducible exact LeO.none _)
      | (with_reducible refine LeO.ite ?_ ?_)
      | (with_reducible refine LeO.bind ?_ (fun _ => ?_))
      | exact ih0 _ _ _
      | exact slices_Contains_int_int.mono _ _ _
      | exact LeO.none _
      | refine LeO.ite ?_ ?_
      | refine LeO.bind ?_ (fun _ => ?_)
theorem impl_isRow.mono : ∀ a0 a1 k, LeO (impl_isRow.f k a0 a1) (impl_isRow.f (k + 1) a0 a1) := by
  intro a0 a1 k
  have ih0 := impl_isRow.mono_l k
  unfold impl_isRow.f
  repeat' first
      | (with_reducible exact ih0 _ _ _)
      | (with_reducible exact slices_Contains_int_int.mono _ _ _)
      | (with_reducible exact LeO.refl _)
      | (with_reducible exact LeO.none _)
      | (with_reducible refine LeO.ite ?_ ?_)
      | (with_reducible refine LeO.bind ?_ (fun _ => ?_))
      | exact ih0 _ _ _
      | exact slices_Contains_int_int.mono _ _ _
      | exact LeO.none _
      | refine LeO.ite ?_ ?_
      | refine LeO.bind ?_ (fun _ => ?_)
set_option maxHeartbeats 8000000 in
set_option maxRecDepth 100000 in
theorem impl_isRow.calls (k : Nat) (A0 : Option Addr) (c0 : Nat) (l0 : List Int) (a1 : Int) (r : Bool) (w : World) (hr0 : Kd.C (Kd.int .i64) w A0 l0.length l0) (hc0 : l0.length ≤ c0) (h : impl_isRow.f k l0 a1 = some r) :
  Calls Try.prog 97 #[.slice A0 l0.length c0, .int .i64 a1] w fun e w' => e = .returned (.bool r) ∧ Drawn0 w w' := by
 have HR0 := am_ hr0
 have HC0 := am_ hc0
 clear hr0 hc0
 have H : (if (l0.length : Int) = a1 then (impl_isRow.l0 k l0 a1 0) else (some false)) = some r := h
 clear h
 by_cases c3 : (l0.length : Int) = a1
 ·rw [if_pos c3] at H
  have c3b0 : ((l0.length : Int) == a1) = true := beq_iff_eq.mpr c3
  have c3b1 : ((l0.length : Int) != a1) = false := bne_eq_false_iff_eq.mpr c3
  clear c3
  have H' := am_ H
  clear H
  go_enter Try.func97, Try.ntmps97
  go_wp2
  go_loopg [11] k (fun kq v11 w' => ∃ (x11_1 : Int), v11 = .int .i64 x11_1 ∧ Aside0 (impl_isRow.l0 kq l0 a1 x11_1 = some r) ∧ Aside0 (kq ≤ k) ∧ Drawn0 w w')
  case atStart => exact ⟨(0), z97_1, H', ⟨Nat.le_refl _⟩, z97_2⟩
  case round =>
   clear H'
   obtain ⟨x11_1, rfl, HA, HK1, ⟨m1, rfl⟩⟩ := hrel
   cases gk with
   | zero => exact absurd HA.out (by simp [impl_isRow.l0])
   | succ k1 =>
    have H := HA.out
    clear HA
    simp only [impl_isRow.l0] at H
    by_cases c4 : x11_1 < a1
    ·rw [if_pos c4] at H
     have c4b0 : decide (x11_1 < a1) = true := decide_eq_true c4
     clear c4
     replace H := Option.bind_eq_some_iff.mp H
     obtain ⟨t1006, A50, H⟩ := H
     replace H : (if t1006 = true then (impl_isRow.l0 k1 l0 a1 (wrap64 (x11_1 + 1))) else (some false)) = some r := H
     have A5 := am_ A50
     clear A50
     by_cases c6 : t1006 = true
     ·subst c6
      have H1 : (impl_isRow.l0 k1 l0 a1 (wrap64 (x11_1 + 1))) = some r := by rw [if_pos rfl] at H; exact H
      clear H
      have H := H1
      clear H1
      have H' := am_ H
      clear H
      go_wp2_with (first | ((with_reducible refine gate_callee (f := 120) rfl ?_); refine goesL_ (some 16) rfl rfl Try.func120 (by kernel_rfl) rfl #[.slice A0 l0.length c0, .int .i64 x11_1] rfl (by (try simp only [List.map_toArray, List.map_cons, List.map_nil]); first | done | rfl | (simp only [List.length_drop, List.length_take]; rfl)) ?_; (with_reducible refine (slices_Contains_int_int.calls k1 _ _ l0 x11_1 true _ ?side1 ?side2 A5.out).mono ?_); (case side1 => repeat (first | exact HR0.out | (with_reducible refine Kd.C_alloc ?_ _) | (with_reducible refine Kd.C_drewN ?_ _) | (with_reducible refine Kd.C_drew ?_))); (case side2 => exact HC0.out); rintro e w' ⟨rfl, ⟨nd, rfl⟩⟩; refine ⟨_, rfl, ?_⟩))
      go_roundg k1
      case measure => have := HK1.out; omega
      case rel => exact ⟨(wrap64 (x11_1 + 1)), z97_1, H', ⟨by have := HK1.out; omega⟩, z97_2⟩
     ·replace c6 := Bool.eq_false_iff.mpr c6
      subst c6
      have H1 : (some false) = some r := by rw [if_neg (show ¬ (false = true) by decide)] at H; exact H
      clear H
      have H := H1
      clear H1
      obtain rfl := Option.some.inj H
      go_wp2_with (first | ((with_reducible refine gate_callee (f := 120) rfl ?_); refine goesL_ (some 16) rfl rfl Try.func120 (by kernel_rfl) rfl #[.slice A0 l0.length c0, .int .i64 x11_1] rfl (by (try simp only [List.map_toArray, List.map_cons, List.map_nil]); first | done | rfl | (simp only [List.length_drop, List.length_take]; rfl)) ?_; (with_reducible refine (slices_Contains_int_int.calls k1 _ _ l0 x11_1 false _ ?side1 ?side2 A5.out).mono ?_); (case side1 => repeat (first | exact HR0.out | (with_reducible refine Kd.C_alloc ?_ _) | (with_reducible refine Kd.C_drewN ?_ _) | (with_reducible refine Kd.C_drew ?_))); (case side2 => exact HC0.out); rintro e w' ⟨rfl, ⟨nd, rfl⟩⟩; refine ⟨_, rfl, ?_⟩))
      go_ret
      exact ⟨z97_1, z97_2⟩
    ·rw [if_neg c4] at H
     have c4b0 : decide (x11_1 < a1) = false := decide_eq_false c4
     clear c4
     obtain rfl := Option.some.inj H
     go_wp2
     go_ret
     exact ⟨z97_1, z97_2⟩
 ·rw [if_neg c3] at H
  have c3b0 : ((l0.length : Int) == a1) = false := beq_eq_false_iff_ne.mpr c3
  have c3b1 : ((l0.length : Int) != a1) = true := bne_iff_ne.mpr c3
  obtain rfl := Option.some.inj H
  go_enter Try.func97, Try.ntmps97
  go_wp2
  go_ret
  exact ⟨z97_1, z97_2⟩

end Go.Proofs.Ytefkbmhkhpekjaa.PB

namespace Go.Proofs.Ytefkbmhkhpekjaa.PB
open Go.RowKit Go.Proofs.YtefkbmhkhpekjaaW.PrintWords Go.Proofs.YtefkbmhkhpekjaaW.PrintLast Go.Proofs.YtefkbmhkhpekjaaW.PrintMore
attribute [local go_sem] max2_int min2_int max_two min_two max_three min_three max_four min_four   -- for this text's walks alone
open Go.Proofs.YtefkbmhkhpekjaaMine
set_option linter.unusedVariables false
set_option linter.unusedSimpArgs false

/-! ### impl_Do_98: function 98 -/
def impl_Do_98.f (l0 : List S85) : Option (List S85) := if l0.length < 1048577 then some l0 else none
set_option maxRecDepth 100000 in
set_option maxHeartbeats 800000 in
theorem impl_Do_98.calls (A0 : Option Addr) (c0 : Nat) (l0 : List S85) (r : List S85) (w : World) (hr0 : Kd.C k85 w A0 l0.length l0) (hc0 : l0.length ≤ c0) (h : impl_Do_98.f l0 = some r) :
  Calls Try.prog 98 #[.slice A0 l0.length c0] w fun e w' => ∃ v0_ : Value, e = .returned (v0_) ∧ Kd.R k85 85 w' w.heap.size (fun _ => True) v0_ r ∧ Below w.heap.size w w' := by
 unfold impl_Do_98.f at h
 split at h
 ·rename_i hl
  injection h with h; subst h
  have qT : ∀ (w : World) (a : Option Addr) (n c n' c' : Nat), (binOp .eql 82 (.slice a n c) (.slice none n' c')).run Try.prog w = .ok (.bool a.isNone) w := fun w a n c n' c' => Lib.run_eql_slice_nil w _ _ a n c n' c' Try.underlying82
  rcases A0 with _ | ad
  ·obtain rfl := nil_of_none hr0
   go_enter Try.func98, Try.ntmps98
   go_wp2_with fail
   go_ret
   exact ⟨_, rfl, Kd.R_nil _ _ _ _ _, Below.refl _ _⟩
  ·go_enter Try.func98, Try.ntmps98
   go_wp2_with (at_builtin; refine park ?_)
   refine ⟨?_⟩
   refine Kd.R_append_rows k85 (Rr := k85.K (w.alloc (Obj.cells #[] 85))) (w0 := w) w.heap.size (by rfl) (.tmp 5) (.tmp 6) 82 85 (.agg #[(.int .i64 0), (.int .i64 0), (.int .i64 0)]) 24 rfl Try.underlying82 info85 rfl (by decide) (by omega) (.slice (some ⟨w.heap.size, 0, none⟩) 0 0) [] l0 (some ad) l0.length c0 (fun _ => True) (fun _ => False) rfl rfl ?aO ?aR ?aK (fun _ h => h.elim) (fun _ _ => trivial) ?aB (by simp) ?aL ?_
   case aO => exact R_empty _ _ _ _ _ (Nat.le_refl _) trivial
   case aR => exact C_rows (Kd.C_below hr0 (below_alloc (Below.refl _ _) _))
   case aK => intro x cs hx; rw [k85_open hx]; exact k85_mkM _ _ _ _
   case aB => exact below_alloc (Below.refl _ _) _
   case aL => simp; omega
   intro v1 w1 ho1 hb1 _ _
   go_wp2_with fail
   go_ret
   exact ⟨_, rfl, by simpa using ho1, hb1⟩
 ·cases h


end Go.Proofs.Ytefkbmhkhpekjaa.PB

namespace Go.Proofs.Ytefkbmhkhpekjaa.PB
open Go.RowKit Go.Proofs.YtefkbmhkhpekjaaW.PrintWords Go.Proofs.YtefkbmhkhpekjaaW.PrintLast Go.Proofs.YtefkbmhkhpekjaaW.PrintMore
attribute [local go_sem] max2_int min2_int max_two min_two max_three min_three max_four min_four   -- for this text's walks alone
open Go.Proofs.YtefkbmhkhpekjaaMine
set_option linter.unusedVariables false
set_option linter.unusedSimpArgs false

theorem z47_1 {p : Prop} (h : p := by first | rfl | (simp; done) | (simp [*]; done)) : p := h
theorem z47_2 {p : Prop} (h : p := by first | (with_reducible assumption) | assumption) : p := h
theorem z47_3 {p : Prop} (h : p := by first | rfl | (simp [errW_none, errW_some] <;> rfl) | (simp [*, errW_none, errW_some] <;> rfl)) : p := h
theorem z47_4 {p : Prop} (h : p := by repeat (first | (with_reducible first | exact HB.out | apply below_alloc | apply pw_below_drewN | apply below_drew1) | exact HB.out)) : p := h
theorem z47_5 {p : Prop} (h : p := by first | exact Kd.S_nil _ _ _ _ _ | exact Kd.N_nil _ _ _ _ _ | exact Kd.V_nil _ _ _ _ _ | exact Kd.Q_nil _ _ _ _ _ | exact Kd.R_nil _ _ _ _ _) : p := h
theorem z47_6 {p : Prop} (h : p := by repeat (first | (with_reducible first | exact HB.out | apply below_alloc | apply pw_below_drewN | apply below_drew1 | refine below_set ?_ GE1007.out) | exact HB.out)) : p := h
theorem z47_7 {p : Prop} (h : p := by repeat (first | (with_reducible first | exact HB.out | apply below_alloc | apply pw_below_drewN | apply below_drew1 | refine below_set ?_ GE1007.out | refine below_set ?_ GE1008.out) | exact HB.out)) : p := h
theorem z47_8 {p : Prop} (h : p := by repeat (first | (with_reducible first | exact HB.out | apply below_alloc | apply pw_below_drewN | apply below_drew1 | refine below_set ?_ GE1007.out | refine below_set ?_ GE1008.out | refine below_set ?_ GE1011.out) | exact HB.out)) : p := h
theorem z47_9 {p : Prop} (h : p := by (with_reducible repeat (first | refine blk_drewN ?_ _ | refine blk_drew ?_ | refine blk_alloc ?_ _)); refine blk_put (cs := #[.slice none 0 0]) ?_ 0 _ rfl; (with_reducible repeat (first | refine blk_drewN ?_ _ | refine blk_drew ?_ | refine blk_alloc ?_ _)); exact BK1008.out) : p := h
/-! ### impl_TurnThreads: function 47 -/
mutual
def impl_TurnThreads.j0 : Nat → List Int → Bool → List (List (S85)) → Option ((List (List (S85))) × Bool)
  | 0, _, _, _ => none
  | k + 1, x1, x19, x1008000 => if x19 = true then (some (([] : List (List (S85))), false)) else (impl_TurnThreads.l0 k x1 (x1.length : Int) 0 x1008000 ([] : List (List (S85))))
def impl_TurnThreads.l0 : Nat → List Int → Int → Int → List (List (S85)) → List (List (S85)) → Option ((List (List (S85))) × Bool)
  | 0, _, _, _, _, _ => none
  | k + 1, x21, x22, x23, x1008000, x1012000 => if x23 < x22 then (if 0 ≤ x23 then (if x23 < (x21.length : Int) then (if 0 ≤ (rd x21 x23) then (if (rd x21 x23) < (x1008000.length : Int) then ((impl_Do_98.f (rd_L7 x1008000 (rd x21 x23))).bind fun t1014 => (if x1012000.length < 5864062014805 then (impl_TurnThreads.l0 k x21 x22 (wrap64 (x23 + 1)) x1008000 (x1012000 ++ [t1014])) else (none))) else (none)) else (none)) else (none)) else (none)) else (some (x1012000, true))
end
def impl_TurnThreads.f (k : Nat) (l0_0 : List (List (S85))) (l1 : List Int) : Option ((List (List (S85))) × Bool) := (impl_ProgOk.f k l0_0).bind fun t1009 => (if t1009 = true then ((impl_isRow.f k l1 (l0_0.length : Int)).bind fun t1010 => (impl_TurnThreads.j0 k l1 (!t1010) l0_0)) else (impl_TurnThreads.j0 k l1 true l0_0))
theorem impl_TurnThreads.mono_l : ∀ k, (∀ y0 y1 y2, LeO (impl_TurnThreads.j0 k y0 y1 y2) (impl_TurnThreads.j0 (k + 1) y0 y1 y2)) ∧ (∀ y0 y1 y2 y3 y4, LeO (impl_TurnThreads.l0 k y0 y1 y2 y3 y4) (impl_TurnThreads.l0 (k + 1) y0 y1 y2 y3 y4))
  | 0 => ⟨fun _ _ _ r h => by simp [impl_TurnThreads.j0] at h, fun _ _ _ _ _ r h => by simp [impl_TurnThreads.l0] at h⟩
  | k + 1 => by
    obtain ⟨ih0, ih1⟩ := impl_TurnThreads.mono_l k
    refine ⟨?_, ?_⟩
    · intro y0 y1 y2
      unfold impl_TurnThreads.j0
      repeat' first
      | (with_reducible exact ih0 _ _ _)
      | (with_reducible exact ih1 _ _ _ _ _)
      | (with_reducible exact impl_ProgOk.mono _ _)
      | (with_reducible exact impl_isRow.mono _ _ _)
      | (with_reducible exact LeO.refl _)
      | (with_reducible exact LeO.none _)
      | (with_reducible refine LeO.ite ?_ ?_)
      | (with_reducible refine LeO.bind ?_ (fun _ => ?_))
      | exact ih0 _ _ _
      | exact ih1 _ _ _ _ _
      | exact impl_ProgOk.mono _ _
      | exact impl_isRow.mono _ _ _
      | exact LeO.none _
      | refine LeO.ite ?_ ?_
      | refine LeO.bind ?_ (fun _ => ?_)
    · intro y0 y1 y2 y3 y4
      unfold impl_TurnThreads.l0
      repeat' first
      | (with_reducible exact ih0 _ _ _)
      | (with_reducible exact ih1 _ _ _ _ _)
      | (with_reducible exact impl_ProgOk.mono _ _)
      | (with_reducible exact impl_isRow.mono _ _ _)
      | (with_reducible exact LeO.refl _)
      | (with_reducible exact LeO.none _)
      | (with_reducible refine LeO.ite ?_ ?_)
      | (with_reducible refine LeO.bind ?_ (fun _ => ?_))
      | exact ih0 _ _ _
      | exact ih1 _ _ _ _ _
      | exact impl_ProgOk.mono _ _
      | exact impl_isRow.mono _ _ _
      | exact LeO.none _
      | refine LeO.ite ?_ ?_
      | refine LeO.bind ?_ (fun _ => ?_)
theorem impl_TurnThreads.mono : ∀ a0 a1 k, LeO (impl_TurnThreads.f k a0 a1) (impl_TurnThreads.f (k + 1) a0 a1) := by
  intro a0 a1 k
  obtain ⟨ih0, ih1⟩ := impl_TurnThreads.mono_l k
  unfold impl_TurnThreads.f
  repeat' first
      | (with_reducible exact ih0 _ _ _)
      | (with_reducible exact ih1 _ _ _ _ _)
      | (with_reducible exact impl_ProgOk.mono _ _)
      | (with_reducible exact impl_isRow.mono _ _ _)
      | (with_reducible exact LeO.refl _)
      | (with_reducible exact LeO.none _)
      | (with_reducible refine LeO.ite ?_ ?_)
      | (with_reducible refine LeO.bind ?_ (fun _ => ?_))
      | exact ih0 _ _ _
      | exact ih1 _ _ _ _ _
      | exact impl_ProgOk.mono _ _
      | exact impl_isRow.mono _ _ _
      | exact LeO.none _
      | refine LeO.ite ?_ ?_
      | refine LeO.bind ?_ (fun _ => ?_)
def impl_TurnThreads.T7 : Bool × List (List Nat × List Nat) := (true, [([], []), ([0], [0]), ([], []), ([2], [2]), ([], []), ([3, 4], [3, 4]), ([5], [5]), ([6], [6]), ([7], [7]), ([1, 8, 7], [1, 8]), ([0, 1, 2, 3, 4, 5, 6, 7, 8, 9], []), ([10, 9, 9, 0, 1, 2, 3, 4, 5, 6, 7, 8, 9], [9, 10])])
def impl_TurnThreads.B7 : List Nat := [0, 1, 0, 4, 0, 28, 60, 124, 252, 511, 1023, 2047]
theorem impl_TurnThreads.tab7 : rtab .any (opsOf Try.f47 7) = impl_TurnThreads.T7 := by kernel_rfl
theorem impl_TurnThreads.bits7 : waitsOk impl_TurnThreads.T7.2 impl_TurnThreads.B7 = true := by kernel_rfl
set_option maxHeartbeats 8000000 in
set_option maxRecDepth 100000 in
theorem impl_TurnThreads.calls (k : Nat) (A0_0 : Option Addr) (c0_0 : Nat) (l0_0 : List (List (S85))) (A1 : Option Addr) (c1 : Nat) (l1 : List Int) (r1 : List (List (S85))) (r2 : Bool) (w : World) (hr0_0 : Kd.C (Kd.slice 85 k85) w A0_0 l0_0.length l0_0) (hc0_0 : l0_0.length ≤ c0_0) (hr1 : Kd.C (Kd.int .i64) w A1 l1.length l1) (hc1 : l1.length ≤ c1) (h : impl_TurnThreads.f k l0_0 l1 = some (r1, r2)) :
  Calls Try.prog 47 #[.agg #[.slice A0_0 l0_0.length c0_0], .slice A1 l1.length c1] w fun e w' => ∃ v0_ : Value, e = .returned (.tuple #[.agg #[v0_], .bool r2]) ∧ Kd.S (Kd.slice 85 k85) 82 w' w.heap.size (fun _ => True) v0_ r1 ∧ Below w.heap.size w w' := by
 have hu35 := Try.underlying35
 have HR0_0 := am_ hr0_0
 have HC0_0 := am_ hc0_0
 clear hr0_0 hc0_0
 have HR1 := am_ hr1
 have HC1 := am_ hc1
 clear hr1 hc1
 have HB := am_ (Below.refl w.heap.size w)
 have H : ((impl_ProgOk.f k l0_0).bind fun t1009 => (if t1009 = true then ((impl_isRow.f k l1 (l0_0.length : Int)).bind fun t1010 => (impl_TurnThreads.j0 k l1 (!t1010) l0_0)) else (impl_TurnThreads.j0 k l1 true l0_0))) = some (r1, r2) := h
 clear h
 have HC3 := am_ H
 clear H
 go_enter Try.func47, Try.ntmps47
 go_upto_region 1 with (first | ((with_reducible refine gate_dst (N := 2) rfl ?_); (try (refine gate_guard (by rfl) ?_; dsimp only)); refine box_event ?hg (N := 2) ?hd (cs := #[.slice A0_0 l0_0.length c0_0]) (t := 35) ?hr ?_; (case hd => rfl); (case hg => rfl); (case hr => first | (go_simp; done) | (go_simp; rfl)); intro gb1007 hg w4 hbox hb; have n0_ := am_ (below_step z47_4 hb); have n1_ := am_ (hbox); have n2_ := am_ (by rw [hg]; exact (below_size z47_4) : w.heap.size ≤ gb1007); have n3_ := am_ (by rw [hg]; exact (below_size z47_4) : w.heap.size ≤ gb1007); clear HB; have HB := n0_; have BK1007 := n1_; have GW1007 := n2_; have GE1007 := n3_; clear n0_ n1_ n2_ n3_; clear hb hbox hg) | ((with_reducible refine gate_dst (N := 4) rfl ?_); (try (refine gate_guard (by rfl) ?_; dsimp only)); refine box_event ?hg (N := 4) ?hd (cs := #[.slice none 0 0]) (t := 35) ?hr ?_; (case hd => rfl); (case hg => rfl); (case hr => first | (go_simp; done) | (go_simp; rfl)); intro gb1008 hg w5 hbox hb; have n0_ := am_ (blk_below (bu BK1007.out) hb); have n1_ := am_ (below_step z47_6 hb); have n2_ := am_ (hbox); have n3_ := am_ (by rw [hg]; exact (below_size z47_6) : w.heap.size ≤ gb1008); have n4_ := am_ (by rw [hg]; exact (below_size z47_6) : w.heap.size ≤ gb1008); have n5_ := am_ (by rw [hg]; exact Nat.ne_of_lt (blk_lt (bu BK1007.out)) : gb1007 ≠ gb1008); have n6_ := am_ (by rw [hg]; exact Nat.ne_of_gt (blk_lt (bu BK1007.out)) : gb1008 ≠ gb1007); clear BK1007 HB; have BK1007 := n0_; have HB := n1_; have BK1008 := n2_; have GW1008 := n3_; have GE1008 := n4_; have NB1007_1008 := n5_; have NB1008_1007 := n6_; clear n0_ n1_ n2_ n3_ n4_ n5_ n6_; clear hb hbox hg))
 (try simp only [Act.put, List.setIfInBounds_toArray, List.set_cons_zero, List.set_cons_succ])
 go_cut [19] (fun v19 wc => ∃ (kq : Nat) (x19_2 : Bool), v19 = .bool x19_2 ∧ Aside0 (impl_TurnThreads.j0 kq l1 x19_2 l0_0 = some (r1, r2)) ∧ Aside0 (kq ≤ k) ∧ Aside0 (wc.heap[gb1007]? = some (.cells #[(.slice A0_0 l0_0.length c0_0)] 35 (0, 0))) ∧ Aside0 (wc.heap[gb1008]? = some (.cells #[(.slice none 0 0)] 35 (0, 0))) ∧ Aside0 (Below w.heap.size w wc))
 case first =>
  have H := HC3.out
  clear HC3
  replace H := Option.bind_eq_some_iff.mp H
  obtain ⟨t1009, A60, H⟩ := H
  replace H : (if t1009 = true then ((impl_isRow.f k l1 (l0_0.length : Int)).bind fun t1010 => (impl_TurnThreads.j0 k l1 (!t1010) l0_0)) else (impl_TurnThreads.j0 k l1 true l0_0)) = some (r1, r2) := H
  have A6 := am_ A60
  clear A60
  by_cases c7 : t1009 = true
  ·subst c7
   have H1 : ((impl_isRow.f k l1 (l0_0.length : Int)).bind fun t1010 => (impl_TurnThreads.j0 k l1 (!t1010) l0_0)) = some (r1, r2) := by rw [if_pos rfl] at H; exact H
   clear H
   have H := H1
   clear H1
   replace H := Option.bind_eq_some_iff.mp H
   obtain ⟨t1010, A80, H⟩ := H
   replace H : (impl_TurnThreads.j0 k l1 (!t1010) l0_0) = some (r1, r2) := H
   have A8 := am_ A80
   clear A80
   have H' := am_ H
   clear H
   have hnb9 := NB1007_1008.out
   have hnc9 := NB1008_1007.out
   have hcz10_0 : w5.cell? ⟨gb1007, 0, none⟩ = some (.slice A0_0 l0_0.length c0_0) := (blk_cell BK1007.out 0).trans rfl
   have hfz10_0 := blk_frozen BK1007.out 0
   go_wp2_with (first | ((with_reducible refine gate_callee (f := 31) rfl ?_); refine goesL_ (some 10) rfl rfl Try.func31 (by kernel_rfl) rfl #[.agg #[.slice A0_0 l0_0.length c0_0]] rfl (by (try simp only [List.map_toArray, List.map_cons, List.map_nil]); first | done | rfl | (simp only [List.length_drop, List.length_take]; rfl)) ?_; (with_reducible refine (impl_ProgOk.calls k _ _ l0_0 true _ ?side1 ?side2 A6.out).mono ?_); (case side1 => repeat (first | exact (Kd.C_below HR0_0.out HB.out) | (with_reducible refine Kd.C_alloc ?_ _) | (with_reducible refine Kd.C_drewN ?_ _) | (with_reducible refine Kd.C_drew ?_))); (case side2 => exact HC0_0.out); rintro e w11 ⟨rfl, hb⟩; refine ⟨_, rfl, ?_⟩; have n0_ := am_ (blk_below (bu BK1007.out) hb); have n1_ := am_ (blk_below (bu BK1008.out) hb); have n2_ := am_ (below_step z47_7 hb); clear BK1007 BK1008 HB; have BK1007 := n0_; have BK1008 := n1_; have HB := n2_; clear n0_ n1_ n2_; (try clear hb); (try clear hb2); (try clear hk); (try clear hi); have hcz12_0 : w11.cell? ⟨gb1007, 0, none⟩ = some (.slice A0_0 l0_0.length c0_0) := (blk_cell BK1007.out 0).trans rfl; have hfz12_0 := blk_frozen BK1007.out 0) | (go_at_call 97; (with_reducible refine (impl_isRow.calls k _ _ l1 (l0_0.length : Int) t1010 _ ?side1 ?side2 A8.out).mono ?_); (case side1 => repeat (first | exact (Kd.C_below HR1.out HB.out) | (with_reducible refine Kd.C_alloc ?_ _) | (with_reducible refine Kd.C_drewN ?_ _) | (with_reducible refine Kd.C_drew ?_))); (case side2 => exact HC1.out); rintro e w' ⟨rfl, ⟨nd, rfl⟩⟩))
   go_meet
   case rel => exact ⟨_, (!t1010), z47_1, H', ⟨by first | omega | exact Nat.le_refl _⟩, ⟨bu BK1007.out⟩, ⟨bu BK1008.out⟩, ⟨z47_7⟩⟩
  ·replace c7 := Bool.eq_false_iff.mpr c7
   subst c7
   have H1 : (impl_TurnThreads.j0 k l1 true l0_0) = some (r1, r2) := by rw [if_neg (show ¬ (false = true) by decide)] at H; exact H
   clear H
   have H := H1
   clear H1
   have H' := am_ H
   clear H
   have hnb13 := NB1007_1008.out
   have hnc13 := NB1008_1007.out
   have hcz14_0 : w5.cell? ⟨gb1007, 0, none⟩ = some (.slice A0_0 l0_0.length c0_0) := (blk_cell BK1007.out 0).trans rfl
   have hfz14_0 := blk_frozen BK1007.out 0
   go_wp2_with (first | ((with_reducible refine gate_callee (f := 31) rfl ?_); refine goesL_ (some 10) rfl rfl Try.func31 (by kernel_rfl) rfl #[.agg #[.slice A0_0 l0_0.length c0_0]] rfl (by (try simp only [List.map_toArray, List.map_cons, List.map_nil]); first | done | rfl | (simp only [List.length_drop, List.length_take]; rfl)) ?_; (with_reducible refine (impl_ProgOk.calls k _ _ l0_0 false _ ?side1 ?side2 A6.out).mono ?_); (case side1 => repeat (first | exact (Kd.C_below HR0_0.out HB.out) | (with_reducible refine Kd.C_alloc ?_ _) | (with_reducible refine Kd.C_drewN ?_ _) | (with_reducible refine Kd.C_drew ?_))); (case side2 => exact HC0_0.out); rintro e w15 ⟨rfl, hb⟩; refine ⟨_, rfl, ?_⟩; have n0_ := am_ (blk_below (bu BK1007.out) hb); have n1_ := am_ (blk_below (bu BK1008.out) hb); have n2_ := am_ (below_step z47_7 hb); clear BK1007 BK1008 HB; have BK1007 := n0_; have BK1008 := n1_; have HB := n2_; clear n0_ n1_ n2_; (try clear hb); (try clear hb2); (try clear hk); (try clear hi)))
   go_meet
   case rel => exact ⟨_, (true), z47_1, H', ⟨by first | omega | exact Nat.le_refl _⟩, ⟨bu BK1007.out⟩, ⟨bu BK1008.out⟩, ⟨z47_7⟩⟩
 case rest =>
  clear HC3
  obtain ⟨kq, x19_2, rfl, HA, HJ2, BK1007, BK1008, HB⟩ := hcut
  cases kq with
  | zero => exact absurd HA.out (by simp [impl_TurnThreads.j0])
  | succ kj2 =>
   have H := HA.out
   clear HA
   simp only [impl_TurnThreads.j0] at H
   by_cases c16 : x19_2 = true
   ·subst c16
    have H1 : (some (([] : List (List (S85))), false)) = some (r1, r2) := by rw [if_pos rfl] at H; exact H
    clear H
    have H := H1
    clear H1
    simp only [Option.some.injEq, Prod.mk.injEq] at H
    obtain ⟨rfl, rfl⟩ := H
    have hnb17 := NB1008_1007.out
    have hnc17 := NB1007_1008.out
    have hcz18_0 : wc.cell? ⟨gb1008, 0, none⟩ = some (.slice none 0 0) := (blk_cell BK1008.out 0).trans rfl
    have hfz18_0 := blk_frozen BK1008.out 0
    go_wp2
    refine bodyPost_ret (results_ct rfl _ _ gb1008 35 #[.slice none 0 0] (0, 0) _ rfl z47_9 Try.underlying35 rfl (by kernel_rfl)) rfl ?_
    exact ⟨_, z47_3, z47_5, z47_7⟩
   ·replace c16 := Bool.eq_false_iff.mpr c16
    subst c16
    have H1 : (impl_TurnThreads.l0 kj2 l1 (l1.length : Int) 0 l0_0 ([] : List (List (S85)))) = some (r1, r2) := by rw [if_neg (show ¬ (false = true) by decide)] at H; exact H
    clear H
    have H := H1
    clear H1
    have H' := am_ H
    clear H
    go_wp2_with (first | ((with_reducible refine gate_dst (N := 6) rfl ?_); (try (refine gate_guard (by rfl) ?_; dsimp only)); refine box_event ?hg (N := 6) ?hd (cs := #[.slice none 0 0]) (t := 35) ?hr ?_; (case hd => rfl); (case hg => rfl); (case hr => first | (go_simp; done) | (go_simp; rfl)); intro gb1011 hg w19 hbox hb; have n0_ := am_ (blk_below (bu BK1007.out) hb); have n1_ := am_ (blk_below (bu BK1008.out) hb); have n2_ := am_ (below_step z47_7 hb); have n3_ := am_ (hbox); have n4_ := am_ (by rw [hg]; exact (below_size z47_7) : w.heap.size ≤ gb1011); have n5_ := am_ (by rw [hg]; exact (below_size z47_7) : w.heap.size ≤ gb1011); have n6_ := am_ (by rw [hg]; exact Nat.ne_of_lt (blk_lt (bu BK1007.out)) : gb1007 ≠ gb1011); have n7_ := am_ (by rw [hg]; exact Nat.ne_of_gt (blk_lt (bu BK1007.out)) : gb1011 ≠ gb1007); have n8_ := am_ (by rw [hg]; exact Nat.ne_of_lt (blk_lt (bu BK1008.out)) : gb1008 ≠ gb1011); have n9_ := am_ (by rw [hg]; exact Nat.ne_of_gt (blk_lt (bu BK1008.out)) : gb1011 ≠ gb1008); clear BK1007 BK1008 HB; have BK1007 := n0_; have BK1008 := n1_; have HB := n2_; have BK1011 := n3_; have GW1011 := n4_; have GE1011 := n5_; have NB1007_1011 := n6_; have NB1011_1007 := n7_; have NB1008_1011 := n8_; have NB1011_1008 := n9_; clear n0_ n1_ n2_ n3_ n4_ n5_ n6_ n7_ n8_ n9_; clear hb hbox hg))
    go_loopg [23] kj2 (fun kq v23 w' => ∃ (x23_2 : Int) (x1012000_2 : List (List (S85))) (u1012000 : Value), v23 = .int .i64 x23_2 ∧ Aside0 (impl_TurnThreads.l0 kq l1 (l1.length : Int) x23_2 l0_0 x1012000_2 = some (r1, r2)) ∧ Aside0 (kq ≤ kj2) ∧ Aside0 (Kd.S (Kd.slice 85 k85) 82 w' w.heap.size (fun _ => True) u1012000 x1012000_2) ∧ Aside0 (w'.heap[gb1007]? = some (.cells #[(.slice A0_0 l0_0.length c0_0)] 35 (0, 0))) ∧ Aside0 (w'.heap[gb1008]? = some (.cells #[(.slice none 0 0)] 35 (0, 0))) ∧ Aside0 (w'.heap[gb1011]? = some (.cells #[u1012000] 35 (0, 0))) ∧ Aside0 (Below w.heap.size w w'))
    case atStart => exact ⟨(0), (([] : List (List (S85)))), (.slice none 0 0), z47_1, H', ⟨Nat.le_refl _⟩, ⟨z47_5⟩, ⟨bu BK1007.out⟩, ⟨bu BK1008.out⟩, ⟨bu BK1011.out⟩, ⟨z47_8⟩⟩
    case round =>
     clear H'
     obtain ⟨x23_2, x1012000_2, u1012000, rfl, HA, HK2, HO_1012000, BK1007, BK1008, BK1011, HB⟩ := hrel
     cases gk with
     | zero => exact absurd HA.out (by simp [impl_TurnThreads.l0])
     | succ k2 =>
      have H := HA.out
      clear HA
      simp only [impl_TurnThreads.l0] at H
      by_cases c20 : x23_2 < (l1.length : Int)
      ·rw [if_pos c20] at H
       have c20b0 : decide (x23_2 < (l1.length : Int)) = true := decide_eq_true c20
       clear c20
       by_cases c21 : 0 ≤ x23_2
       ·rw [if_pos c21] at H
        have c21b0 : decide (0 ≤ x23_2) = true := decide_eq_true c21
        clear c21
        by_cases c22 : x23_2 < (l1.length : Int)
        ·rw [if_pos c22] at H
         have c22b0 : decide (x23_2 < (l1.length : Int)) = true := decide_eq_true c22
         clear c22
         by_cases c23 : 0 ≤ (rd l1 x23_2)
         ·rw [if_pos c23] at H
          have c23b0 : decide (0 ≤ (rd l1 x23_2)) = true := decide_eq_true c23
          clear c23
          by_cases c24 : (rd l1 x23_2) < (l0_0.length : Int)
          ·rw [if_pos c24] at H
           have c24b0 : decide ((rd l1 x23_2) < (l0_0.length : Int)) = true := decide_eq_true c24
           clear c24
           replace H := Option.bind_eq_some_iff.mp H
           obtain ⟨t1014, A250, H⟩ := H
           replace H : (if x1012000_2.length < 5864062014805 then (impl_TurnThreads.l0 k2 l1 (l1.length : Int) (wrap64 (x23_2 + 1)) l0_0 (x1012000_2 ++ [t1014])) else (none)) = some (r1, r2) := H
           have A25 := am_ A250
           clear A250
           by_cases c26 : x1012000_2.length < 5864062014805
           ·rw [if_pos c26] at H
            have LMc26 := am_ c26
            clear c26
            obtain ⟨y1017, hy1017⟩ : ∃ y_ : List (List (S85)), y_ = (x1012000_2 ++ [t1014]) := ⟨_, rfl⟩
            replace H : (impl_TurnThreads.l0 k2 l1 (l1.length : Int) (wrap64 (x23_2 + 1)) l0_0 y1017) = some (r1, r2) := by first | (rw [hy1017]; with_reducible exact H) | (have H2_ := (Option.bind_some _ _).symm.trans H; rw [hy1017]; with_reducible exact H2_) | (have H2_ := (Option.bind_some _ _).symm.trans H; with_reducible exact H2_) | with_reducible exact H | (rw [hy1017]; exact H) | exact H
            have Ny1017 := am_ hy1017
            clear hy1017
            have H' := am_ H
            clear H
            have p1012 : 0 ≤ (x23_2 : Int) := of_decide_eq_true z47_2
            have q1012 : x23_2 < (l1.length : Int) := of_decide_eq_true z47_2
            obtain ⟨ad1012, e1012, hx1012_0⟩ := Kd.at_int HR1.out x23_2 p1012 q1012
            cases e1012
            replace hx1012_0 := (HB.out.cell (World.block_lt_of_cell? w _ hx1012_0)).trans hx1012_0
            replace p1012 := eq_true p1012
            replace q1012 := eq_true q1012
            try go_wp2
            have n0_ := am_ (Kd.S_drew HO_1012000.out)
            have n1_ := am_ (blk_drew BK1007.out)
            have n2_ := am_ (blk_drew BK1008.out)
            have n3_ := am_ (blk_drew BK1011.out)
            have n4_ := am_ (below_drew1 HB.out)
            clear HO_1012000 BK1007 BK1008 BK1011 HB
            have HO_1012000 := n0_
            have BK1007 := n1_
            have BK1008 := n2_
            have BK1011 := n3_
            have HB := n4_
            clear n0_ n1_ n2_ n3_ n4_
            have p1013 : 0 ≤ ((rd l1 x23_2) : Int) := of_decide_eq_true z47_2
            have q1013 : (rd l1 x23_2) < (l0_0.length : Int) := of_decide_eq_true z47_2
            obtain ⟨ad1013, A1013_0, c1013_0, e1013, hx1013_0, hl1013_0, hi1013_0⟩ := at_L7 HR0_0.out (rd l1 x23_2) p1013 q1013
            have hw1013_0 := hx1013_0
            cases e1013
            replace hx1013_0 := (HB.out.cell (World.block_lt_of_cell? w _ hx1013_0)).trans hx1013_0
            have HR1013_0 := am_ hi1013_0
            have HC1013_0 := am_ hl1013_0
            clear hi1013_0 hl1013_0
            replace p1013 := eq_true p1013
            replace q1013 := eq_true q1013
            refine start_ (n := 12) (S := fun w' => w'.cell? ⟨gb1011, 0, none⟩ = some (u1012000) ∧ w'.cell? ⟨gb1007, 0, none⟩ = some (.slice (some ad1013) l0_0.length c0_0) ∧ w'.cell? (ad1013.add ((rd l1 x23_2)).toNat) = some (.slice A1013_0 (rd_L7 l0_0 (rd l1 x23_2)).length c1013_0)) (ds := [11]) #[false, false, false, false, false, false, false, false, false, false, false, false] (by kernel_rfl) rfl rfl ⟨(blk_cell BK1011.out 0).trans rfl, (blk_cell BK1007.out 0).trans rfl, ((HB.out.cell (World.block_lt_of_cell? w _ hw1013_0)).trans hw1013_0)⟩ (fun hHeld => ?_); refine with_tabW impl_TurnThreads.tab7 impl_TurnThreads.bits7 (fun HT_ HW_ => ?_)
            generalize wr.drew = w27 at HO_1012000 BK1007 BK1008 BK1011 HB HR1013_0 hx1013_0 hHeld ⊢
            refine pure_ (i := 0) (N := some 27) (v := ?_) (a' := ?_) #[true, false, false, false, false, false, false, false, false, false, false, false] rfl rfl (any_of HT_.out (by kernel_rfl)) (fun _ _ _ h => h) (Or.inl ⟨by rfl, ?_⟩) ?_ ?_
            rotate_left
            ·intro w'
             go_simp
             with_reducible rfl
            rotate_left
            ·simp only [Act.put, List.setIfInBounds_toArray, List.set_cons_zero, List.set_cons_succ, i64_w, i32_w]
             rfl
            refine pure_ (i := 2) (N := some 29) (v := ?_) (a' := ?_) #[true, false, true, false, false, false, false, false, false, false, false, false] rfl rfl (any_of HT_.out (by kernel_rfl)) (fun _ _ _ h => h) (Or.inl ⟨by rfl, ?_⟩) ?_ ?_
            rotate_left
            ·intro w'
             go_simp
             with_reducible rfl
            rotate_left
            ·simp only [Act.put, List.setIfInBounds_toArray, List.set_cons_zero, List.set_cons_succ, i64_w, i32_w]
             rfl
            refine pure_ (i := 4) (N := some 31) (v := ?_) (a' := ?_) #[true, false, true, false, true, false, false, false, false, false, false, false] rfl rfl (any_of HT_.out (by kernel_rfl)) (fun _ _ _ h => h) (Or.inl ⟨by rfl, ?_⟩) ?_ ?_
            rotate_left
            ·intro w'
             go_simp
             with_reducible rfl
            rotate_left
            ·simp only [Act.put, List.setIfInBounds_toArray, List.set_cons_zero, List.set_cons_succ, i64_w, i32_w]
             rfl
            refine take_ (i := 1) (N := some 28) (v := ?_) (a' := ?_) #[true, true, true, false, true, false, false, false, false, false, false, false] rfl rfl (take_ofW HT_.out HW_.out (by kernel_rfl)) (fun _ _ _ h => h) (Or.inl ⟨by rfl, ?_⟩) hHeld ?_ ?_
            rotate_left
            ·rintro w' ⟨s0, s1, s2⟩
             go_simp
             with_reducible rfl
            rotate_left
            ·simp only [Act.put, List.setIfInBounds_toArray, List.set_cons_zero, List.set_cons_succ, i64_w, i32_w]
             rfl
            refine take_ (i := 3) (N := some 30) (v := ?_) (a' := ?_) #[true, true, true, true, true, false, false, false, false, false, false, false] rfl rfl (take_ofW HT_.out HW_.out (by kernel_rfl)) (fun _ _ _ h => h) (Or.inl ⟨by rfl, ?_⟩) hHeld ?_ ?_
            rotate_left
            ·rintro w' ⟨s0, s1, s2⟩
             go_simp
             with_reducible rfl
            rotate_left
            ·simp only [Act.put, List.setIfInBounds_toArray, List.set_cons_zero, List.set_cons_succ, i64_w, i32_w]
             rfl
            refine pure_ (i := 5) (N := some 32) (v := ?_) (a' := ?_) #[true, true, true, true, true, true, false, false, false, false, false, false] rfl rfl (any_of HT_.out (by kernel_rfl)) (fun _ _ _ h => h) (Or.inl ⟨by rfl, ?_⟩) ?_ ?_
            rotate_left
            ·intro w'
             go_simp
             with_reducible rfl
            rotate_left
            ·simp only [Act.put, List.setIfInBounds_toArray, List.set_cons_zero, List.set_cons_succ, i64_w, i32_w]
             rfl
            refine take_ (i := 6) (N := some 33) (v := ?_) (a' := ?_) #[true, true, true, true, true, true, true, false, false, false, false, false] rfl rfl (take_ofW HT_.out HW_.out (by kernel_rfl)) (fun _ _ _ h => h) (Or.inl ⟨by rfl, ?_⟩) hHeld ?_ ?_
            rotate_left
            ·rintro w' ⟨s0, s1, s2⟩
             go_simp
             with_reducible rfl
            rotate_left
            ·simp only [Act.put, List.setIfInBounds_toArray, List.set_cons_zero, List.set_cons_succ, i64_w, i32_w]
             rfl
            refine one_ (i := 7) (N := some 34) #[true, true, true, true, true, true, true, true, false, false, false, false] rfl rfl (one_of HT_.out (by kernel_rfl)) (by decide) (fun K hK => ?_)
            refine goes_ Try.func98 (by kernel_rfl) rfl #[.slice A1013_0 (rd_L7 l0_0 (rd l1 x23_2)).length c1013_0] (by rfl) rfl rfl (by (try simp only [List.map_toArray, List.map_cons, List.map_nil]); first | done | rfl | (simp only [List.length_drop, List.length_take]; rfl)) ?_
            with_reducible refine (impl_Do_98.calls _ _ (rd_L7 l0_0 (rd l1 x23_2)) t1014 _ ?side1 ?side2 A25.out).mono ?_
            (case side1 => repeat (first | exact (Kd.C_below HR1013_0.out HB.out) | (with_reducible refine Kd.C_alloc ?_ _) | (with_reducible refine Kd.C_drewN ?_ _) | (with_reducible refine Kd.C_drew ?_)))
            (case side2 => exact HC1013_0.out)
            rintro e w28 ⟨v1015, rfl, ho0, hb⟩
            refine ⟨_, rfl, ?_⟩
            have n0_ := am_ (Kd.S_elder' (su HO_1012000.out) (Kd.R_base ho0) hb)
            have n1_ := am_ (Kd.R_lower ho0 (below_size z47_8))
            have n2_ := am_ (blk_below (bu BK1007.out) hb)
            have n3_ := am_ (blk_below (bu BK1008.out) hb)
            have n4_ := am_ (blk_below (bu BK1011.out) hb)
            have n5_ := am_ (below_step z47_8 hb)
            clear HO_1012000 BK1007 BK1008 BK1011 HB
            have HO_1012000 := n0_
            have HO1016 := n1_
            have BK1007 := n2_
            have BK1008 := n3_
            have BK1011 := n4_
            have HB := n5_
            clear n0_ n1_ n2_ n3_ n4_ n5_
            (try clear hb)
            (try clear hb2)
            (try clear hk)
            (try clear hi)
            (try clear ho0)
            obtain ⟨Ao30, co30, eo30⟩ := Kd.R_slice HO1016.out
            (first | subst eo30 | (injection eo30 with f1_ f2_ f3_; have f4_ := f1_.symm; have f5_ := f3_.symm; clear f1_ f2_ f3_; subst f4_; subst f5_))
            refine hK.out _ _ ⟨(blk_cell BK1011.out 0).trans rfl, (blk_cell BK1007.out 0).trans rfl, ((HB.out.cell (World.block_lt_of_cell? w _ hw1013_0)).trans hw1013_0)⟩ (fun hHeld => ?_)
            clear hK K
            refine norm_ (a' := ?_) ?_ ?_
            rotate_left
            ·show Act.put _ (some 34) _ = _
             simp only [Act.put, List.setIfInBounds_toArray, List.set_cons_zero, List.set_cons_succ, i64_w, i32_w]
             rfl
            refine one_ (i := 8) (N := some 35) #[true, true, true, true, true, true, true, true, true, false, false, false] rfl rfl (one_of HT_.out (by kernel_rfl)) (by decide) (fun K hK => ?_)
            refine value_ (w1 := ?_) (v := ?_) (by rfl) rfl ?_ ?_
            rotate_left 2
            ·go_simp
             constructor
             ·rfl
             ·rfl
            refine hK.out _ _ ⟨(blk_cell (blk_alloc BK1011.out _) 0).trans rfl, (blk_cell (blk_alloc BK1007.out _) 0).trans rfl, (World.cell?_alloc_lt _ _ _ (World.block_lt_of_cell? _ _ (((HB.out.cell (World.block_lt_of_cell? w _ hw1013_0)).trans hw1013_0)))).trans (((HB.out.cell (World.block_lt_of_cell? w _ hw1013_0)).trans hw1013_0))⟩ (fun hHeld => ?_)
            clear hK K
            refine norm_ (a' := ?_) ?_ ?_
            rotate_left
            ·show Act.put _ (some 35) _ = _
             simp only [Act.put, List.setIfInBounds_toArray, List.set_cons_zero, List.set_cons_succ, i64_w, i32_w]
             rfl
            refine one_ (i := 9) (N := some 36) #[true, true, true, true, true, true, true, true, true, true, false, false] rfl rfl (one_of HT_.out (by kernel_rfl)) (by decide) (fun K hK => ?_)
            refine Kd.S_append_step (Kd.slice 85 k85) (w0 := w) w.heap.size (by rfl) (.tmp 28) (.tmp 35) 33 82 (.slice none 0 0) 24 rfl Try.underlying33 info82 rfl (by decide) (by omega) u1012000 x1012000_2 t1014 [.slice Ao30 t1014.length co30] (fun _ => True) (fun k_ => some k_ = (.slice Ao30 t1014.length co30 : Value).ownBlock) rfl rfl ?aP (fun k_ hk_ => ((Kd.R_mono (ok' := fun k_ => ((fun _ => True)) k_ ∧ some k_ ≠ (u1012000 : Value).ownBlock) (Kd.R_apart' (HO1016.out) (Kd.S_typed HO_1012000.out) (by decide)) (fun k_ hk => ⟨trivial, hk.2⟩))).1 k_ hk_.symm) ?aF ?aO ?aB ?aS ?aL ?_
            (case aP => exact Kd.M_row (Kd.R_mono (Kd.R_tight rfl (Kd.R_mono (ok' := fun k_ => ((fun _ => True)) k_ ∧ some k_ ≠ (u1012000 : Value).ownBlock) (Kd.R_apart' (HO1016.out) (Kd.S_typed HO_1012000.out) (by decide)) (fun k_ hk => ⟨trivial, hk.2⟩))) (fun _ h_ => h_)))
            (case aB => exact z47_8)
            (case aF => exact (fun _ _ => trivial))
            (case aO => exact (su (Kd.S_mono HO_1012000.out (fun k_ hk => ⟨trivial, fun e_ => hk.2 e_⟩))))
            (case aS => exact (below_size z47_8))
            (case aL => have := LMc26.out; omega)
            intro v1018 w29 ho hb hg hat
            rw [← Ny1017.out] at ho
            have n0_ := am_ (blk_grown (bu BK1007.out) hg (Kd.S_ne HO_1012000.out BK1007.out (by decide)))
            have n1_ := am_ (blk_grown (bu BK1008.out) hg (Kd.S_ne HO_1012000.out BK1008.out (by decide)))
            have n2_ := am_ (blk_grown (bu BK1011.out) hg (Kd.S_ne HO_1012000.out BK1011.out (by decide)))
            have n3_ := am_ (hb)
            have n4_ := am_ (ho)
            clear BK1007 BK1008 BK1011 HB HO_1012000 HO1016
            have BK1007 := n0_
            have BK1008 := n1_
            have BK1011 := n2_
            have HB := n3_
            have HO1019 := n4_
            clear n0_ n1_ n2_ n3_ n4_ ho hb hg hat
            obtain ⟨Ao31, co31, eo31⟩ := Kd.S_slice HO1019.out
            (first | subst eo31 | (injection eo31 with f1_ f2_ f3_; have f4_ := f1_.symm; have f5_ := f3_.symm; clear f1_ f2_ f3_; subst f4_; subst f5_))
            refine hK.out _ _ ⟨(blk_cell BK1011.out 0).trans rfl, (blk_cell BK1007.out 0).trans rfl, ((HB.out.cell (World.block_lt_of_cell? w _ hw1013_0)).trans hw1013_0)⟩ (fun hHeld => ?_)
            clear hK K
            refine norm_ (a' := ?_) ?_ ?_
            rotate_left
            ·show Act.put _ (some 36) _ = _
             simp only [Act.put, List.setIfInBounds_toArray, List.set_cons_zero, List.set_cons_succ, i64_w, i32_w]
             rfl
            refine pure_ (i := 10) (N := some 37) (v := ?_) (a' := ?_) #[true, true, true, true, true, true, true, true, true, true, true, false] rfl rfl (any_of HT_.out (by kernel_rfl)) (fun _ _ _ h => h) (Or.inl ⟨by rfl, ?_⟩) ?_ ?_
            rotate_left
            ·intro w'
             go_simp
             with_reducible rfl
            rotate_left
            ·simp only [Act.put, List.setIfInBounds_toArray, List.set_cons_zero, List.set_cons_succ, i64_w, i32_w]
             rfl
            refine last_ (i := 11) (N := none) #[true, true, true, true, true, true, true, true, true, true, true, true] rfl rfl (one_of HT_.out (by kernel_rfl)) (by decide) (fun K hK => ?_)
            have hs32 : w29.cell? ⟨gb1011, 0, none⟩ = some (u1012000) := (blk_cell BK1011.out 0).trans rfl
            have hfs32 := blk_frozen BK1011.out 0
            have hns32_0 := NB1007_1011.out
            have hns32_1 := NB1008_1011.out
            have hms32_0 := NB1011_1007.out
            have hms32_1 := NB1011_1008.out
            refine skip_ (w1 := ?_) (by rfl) rfl ?_ ?_
            rotate_left
            ·go_simp
             rfl
            refine hK.out _ _ ?_
            clear hK K
            refine done_ (done_of HT_.out (by kernel_rfl)) ?_
            try go_wp2
            go_roundg k2
            case measure => have := HJ2.out; have := HK2.out; omega
            case rel => exact ⟨(wrap64 (x23_2 + 1)), (y1017), (.slice Ao31 y1017.length co31), z47_1, H', ⟨by have := HJ2.out; have := HK2.out; omega⟩, ⟨su (Kd.S_mono (Kd.S_far (p := ⟨gb1011, 0, none⟩) (Kd.S_types HO1019.out BK1011.out (by decide)) (fun _ hk => hk.2) (.slice Ao31 y1017.length co31)) (fun _ hk => trivial))⟩, ⟨by (with_reducible repeat (first | refine blk_drewN ?_ _ | refine blk_drew ?_ | refine blk_alloc ?_ _)); refine blk_far ?_ NB1007_1011.out _; (with_reducible repeat (first | refine blk_drewN ?_ _ | refine blk_drew ?_ | refine blk_alloc ?_ _)); exact BK1007.out⟩, ⟨by (with_reducible repeat (first | refine blk_drewN ?_ _ | refine blk_drew ?_ | refine blk_alloc ?_ _)); refine blk_far ?_ NB1008_1011.out _; (with_reducible repeat (first | refine blk_drewN ?_ _ | refine blk_drew ?_ | refine blk_alloc ?_ _)); exact BK1008.out⟩, ⟨by (with_reducible repeat (first | refine blk_drewN ?_ _ | refine blk_drew ?_ | refine blk_alloc ?_ _)); refine blk_put (cs := #[u1012000]) ?_ 0 _ rfl; (with_reducible repeat (first | refine blk_drewN ?_ _ | refine blk_drew ?_ | refine blk_alloc ?_ _)); exact BK1011.out⟩, ⟨z47_8⟩⟩
           ·rw [if_neg c26] at H
            exact absurd H (by simp)
          ·rw [if_neg c24] at H
           exact absurd H (by simp)
         ·rw [if_neg c23] at H
          exact absurd H (by simp)
        ·rw [if_neg c22] at H
         exact absurd H (by simp)
       ·rw [if_neg c21] at H
        exact absurd H (by simp)
      ·rw [if_neg c20] at H
       have c20b0 : decide (x23_2 < (l1.length : Int)) = false := decide_eq_false c20
       clear c20
       simp only [Option.some.injEq, Prod.mk.injEq] at H
       obtain ⟨rfl, rfl⟩ := H
       have hnb33 := NB1011_1007.out
       have hnc33 := NB1007_1011.out
       have hnb34 := NB1011_1008.out
       have hnc34 := NB1008_1011.out
       have hcz35_0 : wr.cell? ⟨gb1011, 0, none⟩ = some (u1012000) := (blk_cell BK1011.out 0).trans rfl
       have hfz35_0 := blk_frozen BK1011.out 0
       obtain ⟨Ao36, co36, eo36⟩ := Kd.S_slice HO_1012000.out
       subst eo36
       have hnb37 := NB1008_1007.out
       have hnc37 := NB1007_1008.out
       have hcz38_0 : wr.cell? ⟨gb1008, 0, none⟩ = some (.slice none 0 0) := (blk_cell BK1008.out 0).trans rfl
       have hfz38_0 := blk_frozen BK1008.out 0
       go_wp2
       refine bodyPost_ret (results_ct rfl _ _ gb1008 35 #[.slice Ao36 x1012000_2.length co36] (0, 0) _ rfl z47_9 Try.underlying35 rfl (by kernel_rfl)) rfl ?_
       exact ⟨_, z47_3, su (Kd.S_mono (Kd.S_far (p := ⟨gb1008, 0, none⟩) (Kd.S_types HO_1012000.out BK1008.out (by decide)) (fun _ hk => hk.2) (.slice Ao36 x1012000_2.length co36)) (fun _ hk => trivial)), z47_8⟩

end Go.Proofs.Ytefkbmhkhpekjaa.PB

namespace Go.Proofs.Ytefkbmhkhpekjaa.PB
open Go.RowKit Go.Proofs.YtefkbmhkhpekjaaW.PrintWords Go.Proofs.YtefkbmhkhpekjaaW.PrintLast Go.Proofs.YtefkbmhkhpekjaaW.PrintMore
attribute [local go_sem] max2_int min2_int max_two min_two max_three min_three max_four min_four   -- for this text's walks alone
open Go.Proofs.YtefkbmhkhpekjaaMine
set_option linter.unusedVariables false
set_option linter.unusedSimpArgs false

theorem z90_1 {p : Prop} (h : p := by repeat (first | (with_reducible first | exact HB.out | apply below_alloc | apply pw_below_drewN | apply below_drew1) | exact HB.out)) : p := h
theorem z90_2 {p : Prop} (h : p := by repeat (first | (with_reducible first | exact HB.out | apply below_alloc | apply pw_below_drewN | apply below_drew1 | refine below_set ?_ GE415.out) | exact HB.out)) : p := h
theorem z90_3 {p : Prop} (h : p := by repeat (first | (with_reducible first | exact HB.out | apply below_alloc | apply pw_below_drewN | apply below_drew1 | refine below_set ?_ GE415.out | refine below_set ?_ GE416.out) | exact HB.out)) : p := h
theorem z90_4 {p : Prop} (h : p := by repeat (first | (with_reducible first | exact HB.out | apply below_alloc | apply pw_below_drewN | apply below_drew1 | refine below_set ?_ GE415.out | refine below_set ?_ GE416.out | refine below_set ?_ GE417.out) | exact HB.out)) : p := h
/-! ### impl_Prog_copied: function 90 -/
def impl_Prog_copied.l0 : Nat → List (List (S85)) → Int → Int → List (List (S85)) → Option ((List (List (S85))))
  | 0, _, _, _, _ => none
  | k + 1, x7, x8, x9, x418000 => if x9 < x8 then (if 0 ≤ x9 then (if x9 < (x7.length : Int) then ((impl_Do_98.f (rd_L7 x7 x9)).bind fun t419 => (if x418000.length < 5864062014805 then (impl_Prog_copied.l0 k x7 x8 (wrap64 (x9 + 1)) (x418000 ++ [t419])) else (none))) else (none)) else (none)) else (some x418000)
def impl_Prog_copied.f (k : Nat) (l0_0 : List (List (S85))) : Option ((List (List (S85)))) := impl_Prog_copied.l0 k l0_0 (l0_0.length : Int) 0 ([] : List (List (S85)))
theorem impl_Prog_copied.mono_l : ∀ k, (∀ y0 y1 y2 y3, LeO (impl_Prog_copied.l0 k y0 y1 y2 y3) (impl_Prog_copied.l0 (k + 1) y0 y1 y2 y3))
  | 0 => fun _ _ _ _ r h => by simp [impl_Prog_copied.l0] at h
  | k + 1 => by
    have ih0 := impl_Prog_copied.mono_l k
    · intro y0 y1 y2 y3
      unfold impl_Prog_copied.l0
      repeat' first
      | (with_reducible exact ih0 _ _ _ _)
      | (with_reducible exact LeO.refl _)
      | (with_reducible exact LeO.none _)
      | (with_reducible refine LeO.ite ?_ ?_)
      | (with_reducible refine LeO.bind ?_ (fun _ => ?_))
      | exact ih0 _ _ _ _
      | exact LeO.none _
      | refine LeO.ite ?_ ?_
      | refine LeO.bind ?_ (fun _ => ?_)
theorem impl_Prog_copied.mono : ∀ a0 k, LeO (impl_Prog_copied.f k a0) (impl_Prog_copied.f (k + 1) a0) := by
  intro a0 k
  have ih0 := impl_Prog_copied.mono_l k
  unfold impl_Prog_copied.f
  repeat' first
      | (with_reducible exact ih0 _ _ _ _)
      | (with_reducible exact LeO.refl _)
      | (with_reducible exact LeO.none _)
      | (with_reducible refine LeO.ite ?_ ?_)
      | (with_reducible refine LeO.bind ?_ (fun _ => ?_))
      | exact ih0 _ _ _ _
      | exact LeO.none _
      | refine LeO.ite ?_ ?_
      | refine LeO.bind ?_ (fun _ => ?_)
def impl_Prog_copied.T5 : Bool × List (List Nat × List Nat) := (true, [([], []), ([0], [0]), ([], []), ([2], [2]), ([3], [3]), ([1, 4, 3], [1, 4]), ([0, 1, 2, 3, 4, 5], []), ([6, 5, 5, 0, 1, 2, 3, 4, 5], [5, 6])])
def impl_Prog_copied.B5 : List Nat := [0, 1, 0, 4, 12, 31, 63, 127]
theorem impl_Prog_copied.tab5 : rtab .any (opsOf Try.f90 5) = impl_Prog_copied.T5 := by kernel_rfl
theorem impl_Prog_copied.bits5 : waitsOk impl_Prog_copied.T5.2 impl_Prog_copied.B5 = true := by kernel_rfl
set_option maxHeartbeats 8000000 in
set_option maxRecDepth 100000 in
theorem impl_Prog_copied.calls (k : Nat) (A0_0 : Option Addr) (c0_0 : Nat) (l0_0 : List (List (S85))) (r : List (List (S85))) (w : World) (hr0_0 : Kd.C (Kd.slice 85 k85) w A0_0 l0_0.length l0_0) (hc0_0 : l0_0.length ≤ c0_0) (h : impl_Prog_copied.f k l0_0 = some r) :
  Calls Try.prog 90 #[.agg #[.slice A0_0 l0_0.length c0_0]] w fun e w' => ∃ v0_ : Value, e = .returned (.agg #[v0_]) ∧ Kd.S (Kd.slice 85 k85) 82 w' w.heap.size (fun _ => True) v0_ r ∧ Below w.heap.size w w' := by
 have hu35 := Try.underlying35
 have HR0_0 := am_ hr0_0
 have HC0_0 := am_ hc0_0
 clear hr0_0 hc0_0
 have HB := am_ (Below.refl w.heap.size w)
 have H : (impl_Prog_copied.l0 k l0_0 (l0_0.length : Int) 0 ([] : List (List (S85)))) = some r := h
 clear h
 have H' := am_ H
 clear H
 go_enter Try.func90, Try.ntmps90
 go_wp2_with (first | ((with_reducible refine gate_dst (N := 1) rfl ?_); refine box_event ?hg (N := 1) ?hd (cs := #[.slice A0_0 l0_0.length c0_0]) (t := 35) ?hr ?_; (case hd => rfl); (case hg => rfl); (case hr => first | (go_simp; done) | (go_simp; rfl)); intro gb415 hg w2 hbox hb; have n0_ := am_ (below_step z90_1 hb); have n1_ := am_ (hbox); have n2_ := am_ (by rw [hg]; exact (below_size z90_1) : w.heap.size ≤ gb415); have n3_ := am_ (by rw [hg]; exact (below_size z90_1) : w.heap.size ≤ gb415); clear HB; have HB := n0_; have BK415 := n1_; have GW415 := n2_; have GE415 := n3_; clear n0_ n1_ n2_ n3_; clear hb hbox hg) | ((with_reducible refine gate_dst (N := 2) rfl ?_); refine box_event ?hg (N := 2) ?hd (cs := #[.slice none 0 0]) (t := 35) ?hr ?_; (case hd => rfl); (case hg => rfl); (case hr => first | (go_simp; done) | (go_simp; rfl)); intro gb416 hg w3 hbox hb; have n0_ := am_ (blk_below (bu BK415.out) hb); have n1_ := am_ (below_step z90_2 hb); have n2_ := am_ (hbox); have n3_ := am_ (by rw [hg]; exact (below_size z90_2) : w.heap.size ≤ gb416); have n4_ := am_ (by rw [hg]; exact (below_size z90_2) : w.heap.size ≤ gb416); have n5_ := am_ (by rw [hg]; exact Nat.ne_of_lt (blk_lt (bu BK415.out)) : gb415 ≠ gb416); have n6_ := am_ (by rw [hg]; exact Nat.ne_of_gt (blk_lt (bu BK415.out)) : gb416 ≠ gb415); clear BK415 HB; have BK415 := n0_; have HB := n1_; have BK416 := n2_; have GW416 := n3_; have GE416 := n4_; have NB415_416 := n5_; have NB416_415 := n6_; clear n0_ n1_ n2_ n3_ n4_ n5_ n6_; clear hb hbox hg) | ((with_reducible refine gate_dst (N := 3) rfl ?_); refine box_event ?hg (N := 3) ?hd (cs := #[.slice none 0 0]) (t := 35) ?hr ?_; (case hd => rfl); (case hg => rfl); (case hr => first | (go_simp; done) | (go_simp; rfl)); intro gb417 hg w4 hbox hb; have n0_ := am_ (blk_below (bu BK415.out) hb); have n1_ := am_ (blk_below (bu BK416.out) hb); have n2_ := am_ (below_step z90_3 hb); have n3_ := am_ (hbox); have n4_ := am_ (by rw [hg]; exact (below_size z90_3) : w.heap.size ≤ gb417); have n5_ := am_ (by rw [hg]; exact (below_size z90_3) : w.heap.size ≤ gb417); have n6_ := am_ (by rw [hg]; exact Nat.ne_of_lt (blk_lt (bu BK415.out)) : gb415 ≠ gb417); have n7_ := am_ (by rw [hg]; exact Nat.ne_of_gt (blk_lt (bu BK415.out)) : gb417 ≠ gb415); have n8_ := am_ (by rw [hg]; exact Nat.ne_of_lt (blk_lt (bu BK416.out)) : gb416 ≠ gb417); have n9_ := am_ (by rw [hg]; exact Nat.ne_of_gt (blk_lt (bu BK416.out)) : gb417 ≠ gb416); clear BK415 BK416 HB; have BK415 := n0_; have BK416 := n1_; have HB := n2_; have BK417 := n3_; have GW417 := n4_; have GE417 := n5_; have NB415_417 := n6_; have NB417_415 := n7_; have NB416_417 := n8_; have NB417_416 := n9_; clear n0_ n1_ n2_ n3_ n4_ n5_ n6_ n7_ n8_ n9_; clear hb hbox hg; have hnb5 := NB415_416.out; have hnc5 := NB416_415.out; have hnb6 := NB415_417.out; have hnc6 := NB417_415.out; have hcz7_0 : w4.cell? ⟨gb415, 0, none⟩ = some (.slice A0_0 l0_0.length c0_0) := (blk_cell BK415.out 0).trans rfl; have hfz7_0 := blk_frozen BK415.out 0))
 go_loopg [9] k (fun kq v9 w' => ∃ (x9_1 : Int) (x418000_1 : List (List (S85))) (u418000 : Value), v9 = .int .i64 x9_1 ∧ Aside0 (impl_Prog_copied.l0 kq l0_0 (l0_0.length : Int) x9_1 x418000_1 = some r) ∧ Aside0 (kq ≤ k) ∧ Aside0 (Kd.S (Kd.slice 85 k85) 82 w' w.heap.size (fun _ => True) u418000 x418000_1) ∧ Aside0 (w'.heap[gb415]? = some (.cells #[(.slice A0_0 l0_0.length c0_0)] 35 (0, 0))) ∧ Aside0 (w'.heap[gb416]? = some (.cells #[(.slice none 0 0)] 35 (0, 0))) ∧ Aside0 (w'.heap[gb417]? = some (.cells #[u418000] 35 (0, 0))) ∧ Aside0 (Below w.heap.size w w'))
 case atStart => exact ⟨(0), (([] : List (List (S85)))), (.slice none 0 0), (by first | rfl | (simp; done) | (simp [*]; done)), H', ⟨Nat.le_refl _⟩, ⟨by first | exact Kd.S_nil _ _ _ _ _ | exact Kd.N_nil _ _ _ _ _ | exact Kd.V_nil _ _ _ _ _ | exact Kd.Q_nil _ _ _ _ _ | exact Kd.R_nil _ _ _ _ _⟩, ⟨bu BK415.out⟩, ⟨bu BK416.out⟩, ⟨bu BK417.out⟩, ⟨z90_4⟩⟩
 case round =>
  clear H'
  obtain ⟨x9_1, x418000_1, u418000, rfl, HA, HK1, HO_418000, BK415, BK416, BK417, HB⟩ := hrel
  cases gk with
  | zero => exact absurd HA.out (by simp [impl_Prog_copied.l0])
  | succ k1 =>
   have H := HA.out
   clear HA
   simp only [impl_Prog_copied.l0] at H
   by_cases c8 : x9_1 < (l0_0.length : Int)
   ·rw [if_pos c8] at H
    have c8b0 : decide (x9_1 < (l0_0.length : Int)) = true := decide_eq_true c8
    clear c8
    by_cases c9 : 0 ≤ x9_1
    ·rw [if_pos c9] at H
     have c9b0 : decide (0 ≤ x9_1) = true := decide_eq_true c9
     clear c9
     by_cases c10 : x9_1 < (l0_0.length : Int)
     ·rw [if_pos c10] at H
      have c10b0 : decide (x9_1 < (l0_0.length : Int)) = true := decide_eq_true c10
      clear c10
      replace H := Option.bind_eq_some_iff.mp H
      obtain ⟨t419, A110, H⟩ := H
      replace H : (if x418000_1.length < 5864062014805 then (impl_Prog_copied.l0 k1 l0_0 (l0_0.length : Int) (wrap64 (x9_1 + 1)) (x418000_1 ++ [t419])) else (none)) = some r := H
      have A11 := am_ A110
      clear A110
      by_cases c12 : x418000_1.length < 5864062014805
      ·rw [if_pos c12] at H
       have LMc12 := am_ c12
       clear c12
       obtain ⟨y422, hy422⟩ : ∃ y_ : List (List (S85)), y_ = (x418000_1 ++ [t419]) := ⟨_, rfl⟩
       replace H : (impl_Prog_copied.l0 k1 l0_0 (l0_0.length : Int) (wrap64 (x9_1 + 1)) y422) = some r := by first | (rw [hy422]; with_reducible exact H) | (have H2_ := (Option.bind_some _ _).symm.trans H; rw [hy422]; with_reducible exact H2_) | (have H2_ := (Option.bind_some _ _).symm.trans H; with_reducible exact H2_) | with_reducible exact H | (rw [hy422]; exact H) | exact H
       have Ny422 := am_ hy422
       clear hy422
       have H' := am_ H
       clear H
       have p418 : 0 ≤ (x9_1 : Int) := of_decide_eq_true (by first | (with_reducible assumption) | assumption)
       have q418 : x9_1 < (l0_0.length : Int) := of_decide_eq_true (by first | (with_reducible assumption) | assumption)
       obtain ⟨ad418, A418_0, c418_0, e418, hx418_0, hl418_0, hi418_0⟩ := at_L7 HR0_0.out x9_1 p418 q418
       cases e418
       replace hx418_0 := (HB.out.cell (World.block_lt_of_cell? w _ hx418_0)).trans hx418_0
       have HR418_0 := am_ hi418_0
       have HC418_0 := am_ hl418_0
       clear hi418_0 hl418_0
       replace p418 := eq_true p418
       replace q418 := eq_true q418
       try go_wp2
       have n0_ := am_ (Kd.S_drew HO_418000.out)
       have n1_ := am_ (blk_drew BK415.out)
       have n2_ := am_ (blk_drew BK416.out)
       have n3_ := am_ (blk_drew BK417.out)
       have n4_ := am_ (below_drew1 HB.out)
       clear HO_418000 BK415 BK416 BK417 HB
       have HO_418000 := n0_
       have BK415 := n1_
       have BK416 := n2_
       have BK417 := n3_
       have HB := n4_
       clear n0_ n1_ n2_ n3_ n4_
       refine start_ (n := 8) (S := fun w' => w'.cell? ⟨gb417, 0, none⟩ = some (u418000)) (ds := [7]) #[false, false, false, false, false, false, false, false] (by kernel_rfl) rfl rfl ((blk_cell BK417.out 0).trans rfl) (fun hHeld => ?_); refine with_tabW impl_Prog_copied.tab5 impl_Prog_copied.bits5 (fun HT_ HW_ => ?_)
       generalize wr.drew = w13 at HO_418000 BK415 BK416 BK417 HB hHeld ⊢
       refine pure_ (i := 0) (N := some 13) (v := ?_) (a' := ?_) #[true, false, false, false, false, false, false, false] rfl rfl (any_of HT_.out (by kernel_rfl)) (fun _ _ _ h => h) (Or.inl ⟨by rfl, ?_⟩) ?_ ?_
       rotate_left
       ·intro w'
        go_simp
        with_reducible rfl
       rotate_left
       ·simp only [Act.put, List.setIfInBounds_toArray, List.set_cons_zero, List.set_cons_succ, i64_w, i32_w]
        rfl
       refine pure_ (i := 2) (N := some 15) (v := ?_) (a' := ?_) #[true, false, true, false, false, false, false, false] rfl rfl (any_of HT_.out (by kernel_rfl)) (fun _ _ _ h => h) (Or.inl ⟨by rfl, ?_⟩) ?_ ?_
       rotate_left
       ·intro w'
        go_simp
        with_reducible rfl
       rotate_left
       ·simp only [Act.put, List.setIfInBounds_toArray, List.set_cons_zero, List.set_cons_succ, i64_w, i32_w]
        rfl
       refine take_ (i := 1) (N := some 14) (v := ?_) (a' := ?_) #[true, true, true, false, false, false, false, false] rfl rfl (take_ofW HT_.out HW_.out (by kernel_rfl)) (fun _ _ _ h => h) (Or.inl ⟨by rfl, ?_⟩) hHeld ?_ ?_
       rotate_left
       ·intro w' s0
        go_simp
        with_reducible rfl
       rotate_left
       ·simp only [Act.put, List.setIfInBounds_toArray, List.set_cons_zero, List.set_cons_succ, i64_w, i32_w]
        rfl
       refine one_ (i := 3) (N := some 16) #[true, true, true, true, false, false, false, false] rfl rfl (one_of HT_.out (by kernel_rfl)) (by decide) (fun K hK => ?_)
       refine goes_ Try.func98 (by kernel_rfl) rfl #[.slice A418_0 (rd_L7 l0_0 x9_1).length c418_0] (by rfl) rfl rfl (by (try simp only [List.map_toArray, List.map_cons, List.map_nil]); first | done | rfl | (simp only [List.length_drop, List.length_take]; rfl)) ?_
       with_reducible refine (impl_Do_98.calls _ _ (rd_L7 l0_0 x9_1) t419 _ ?side1 ?side2 A11.out).mono ?_
       (case side1 => repeat (first | exact (Kd.C_below HR418_0.out HB.out) | (with_reducible refine Kd.C_alloc ?_ _) | (with_reducible refine Kd.C_drewN ?_ _) | (with_reducible refine Kd.C_drew ?_)))
       (case side2 => exact HC418_0.out)
       rintro e w14 ⟨v420, rfl, ho0, hb⟩
       refine ⟨_, rfl, ?_⟩
       have n0_ := am_ (Kd.S_elder' (su HO_418000.out) (Kd.R_base ho0) hb)
       have n1_ := am_ (Kd.R_lower ho0 (below_size z90_4))
       have n2_ := am_ (blk_below (bu BK415.out) hb)
       have n3_ := am_ (blk_below (bu BK416.out) hb)
       have n4_ := am_ (blk_below (bu BK417.out) hb)
       have n5_ := am_ (below_step z90_4 hb)
       clear HO_418000 BK415 BK416 BK417 HB
       have HO_418000 := n0_
       have HO421 := n1_
       have BK415 := n2_
       have BK416 := n3_
       have BK417 := n4_
       have HB := n5_
       clear n0_ n1_ n2_ n3_ n4_ n5_
       (try clear hb)
       (try clear hb2)
       (try clear hk)
       (try clear hi)
       (try clear ho0)
       obtain ⟨Ao16, co16, eo16⟩ := Kd.R_slice HO421.out
       (first | subst eo16 | (injection eo16 with f1_ f2_ f3_; have f4_ := f1_.symm; have f5_ := f3_.symm; clear f1_ f2_ f3_; subst f4_; subst f5_))
       refine hK.out _ _ ((blk_cell BK417.out 0).trans rfl) (fun hHeld => ?_)
       clear hK K
       refine norm_ (a' := ?_) ?_ ?_
       rotate_left
       ·show Act.put _ (some 16) _ = _
        simp only [Act.put, List.setIfInBounds_toArray, List.set_cons_zero, List.set_cons_succ, i64_w, i32_w]
        rfl
       refine one_ (i := 4) (N := some 17) #[true, true, true, true, true, false, false, false] rfl rfl (one_of HT_.out (by kernel_rfl)) (by decide) (fun K hK => ?_)
       refine value_ (w1 := ?_) (v := ?_) (by rfl) rfl ?_ ?_
       rotate_left 2
       ·go_simp
        constructor
        ·rfl
        ·rfl
       refine hK.out _ _ ((blk_cell (blk_alloc BK417.out _) 0).trans rfl) (fun hHeld => ?_)
       clear hK K
       refine norm_ (a' := ?_) ?_ ?_
       rotate_left
       ·show Act.put _ (some 17) _ = _
        simp only [Act.put, List.setIfInBounds_toArray, List.set_cons_zero, List.set_cons_succ, i64_w, i32_w]
        rfl
       refine one_ (i := 5) (N := some 18) #[true, true, true, true, true, true, false, false] rfl rfl (one_of HT_.out (by kernel_rfl)) (by decide) (fun K hK => ?_)
       refine Kd.S_append_step (Kd.slice 85 k85) (w0 := w) w.heap.size (by rfl) (.tmp 14) (.tmp 17) 33 82 (.slice none 0 0) 24 rfl Try.underlying33 info82 rfl (by decide) (by omega) u418000 x418000_1 t419 [.slice Ao16 t419.length co16] (fun _ => True) (fun k_ => some k_ = (.slice Ao16 t419.length co16 : Value).ownBlock) rfl rfl ?aP (fun k_ hk_ => ((Kd.R_mono (ok' := fun k_ => ((fun _ => True)) k_ ∧ some k_ ≠ (u418000 : Value).ownBlock) (Kd.R_apart' (HO421.out) (Kd.S_typed HO_418000.out) (by decide)) (fun k_ hk => ⟨trivial, hk.2⟩))).1 k_ hk_.symm) ?aF ?aO ?aB ?aS ?aL ?_
       (case aP => exact Kd.M_row (Kd.R_mono (Kd.R_tight rfl (Kd.R_mono (ok' := fun k_ => ((fun _ => True)) k_ ∧ some k_ ≠ (u418000 : Value).ownBlock) (Kd.R_apart' (HO421.out) (Kd.S_typed HO_418000.out) (by decide)) (fun k_ hk => ⟨trivial, hk.2⟩))) (fun _ h_ => h_)))
       (case aB => exact z90_4)
       (case aF => exact (fun _ _ => trivial))
       (case aO => exact (su (Kd.S_mono HO_418000.out (fun k_ hk => ⟨trivial, fun e_ => hk.2 e_⟩))))
       (case aS => exact (below_size z90_4))
       (case aL => have := LMc12.out; omega)
       intro v423 w15 ho hb hg hat
       rw [← Ny422.out] at ho
       have n0_ := am_ (blk_grown (bu BK415.out) hg (Kd.S_ne HO_418000.out BK415.out (by decide)))
       have n1_ := am_ (blk_grown (bu BK416.out) hg (Kd.S_ne HO_418000.out BK416.out (by decide)))
       have n2_ := am_ (blk_grown (bu BK417.out) hg (Kd.S_ne HO_418000.out BK417.out (by decide)))
       have n3_ := am_ (hb)
       have n4_ := am_ (ho)
       clear BK415 BK416 BK417 HB HO_418000 HO421
       have BK415 := n0_
       have BK416 := n1_
       have BK417 := n2_
       have HB := n3_
       have HO424 := n4_
       clear n0_ n1_ n2_ n3_ n4_ ho hb hg hat
       obtain ⟨Ao17, co17, eo17⟩ := Kd.S_slice HO424.out
       (first | subst eo17 | (injection eo17 with f1_ f2_ f3_; have f4_ := f1_.symm; have f5_ := f3_.symm; clear f1_ f2_ f3_; subst f4_; subst f5_))
       refine hK.out _ _ ((blk_cell BK417.out 0).trans rfl) (fun hHeld => ?_)
       clear hK K
       refine norm_ (a' := ?_) ?_ ?_
       rotate_left
       ·show Act.put _ (some 18) _ = _
        simp only [Act.put, List.setIfInBounds_toArray, List.set_cons_zero, List.set_cons_succ, i64_w, i32_w]
        rfl
       refine pure_ (i := 6) (N := some 19) (v := ?_) (a' := ?_) #[true, true, true, true, true, true, true, false] rfl rfl (any_of HT_.out (by kernel_rfl)) (fun _ _ _ h => h) (Or.inl ⟨by rfl, ?_⟩) ?_ ?_
       rotate_left
       ·intro w'
        go_simp
        with_reducible rfl
       rotate_left
       ·simp only [Act.put, List.setIfInBounds_toArray, List.set_cons_zero, List.set_cons_succ, i64_w, i32_w]
        rfl
       refine last_ (i := 7) (N := none) #[true, true, true, true, true, true, true, true] rfl rfl (one_of HT_.out (by kernel_rfl)) (by decide) (fun K hK => ?_)
       have hs18 : w15.cell? ⟨gb417, 0, none⟩ = some (u418000) := (blk_cell BK417.out 0).trans rfl
       have hfs18 := blk_frozen BK417.out 0
       have hns18_0 := NB415_417.out
       have hns18_1 := NB416_417.out
       have hms18_0 := NB417_415.out
       have hms18_1 := NB417_416.out
       refine skip_ (w1 := ?_) (by rfl) rfl ?_ ?_
       rotate_left
       ·go_simp
        rfl
       refine hK.out _ _ ?_
       clear hK K
       refine done_ (done_of HT_.out (by kernel_rfl)) ?_
       try go_wp2
       go_roundg k1
       case measure => have := HK1.out; omega
       case rel => exact ⟨(wrap64 (x9_1 + 1)), (y422), (.slice Ao17 y422.length co17), (by first | rfl | (simp; done) | (simp [*]; done)), H', ⟨by have := HK1.out; omega⟩, ⟨su (Kd.S_mono (Kd.S_far (p := ⟨gb417, 0, none⟩) (Kd.S_types HO424.out BK417.out (by decide)) (fun _ hk => hk.2) (.slice Ao17 y422.length co17)) (fun _ hk => trivial))⟩, ⟨by (with_reducible repeat (first | refine blk_drewN ?_ _ | refine blk_drew ?_ | refine blk_alloc ?_ _)); refine blk_far ?_ NB415_417.out _; (with_reducible repeat (first | refine blk_drewN ?_ _ | refine blk_drew ?_ | refine blk_alloc ?_ _)); exact BK415.out⟩, ⟨by (with_reducible repeat (first | refine blk_drewN ?_ _ | refine blk_drew ?_ | refine blk_alloc ?_ _)); refine blk_far ?_ NB416_417.out _; (with_reducible repeat (first | refine blk_drewN ?_ _ | refine blk_drew ?_ | refine blk_alloc ?_ _)); exact BK416.out⟩, ⟨by (with_reducible repeat (first | refine blk_drewN ?_ _ | refine blk_drew ?_ | refine blk_alloc ?_ _)); refine blk_put (cs := #[u418000]) ?_ 0 _ rfl; (with_reducible repeat (first | refine blk_drewN ?_ _ | refine blk_drew ?_ | refine blk_alloc ?_ _)); exact BK417.out⟩, ⟨z90_4⟩⟩
      ·rw [if_neg c12] at H
       exact absurd H (by simp)
     ·rw [if_neg c10] at H
      exact absurd H (by simp)
    ·rw [if_neg c9] at H
     exact absurd H (by simp)
   ·rw [if_neg c8] at H
    have c8b0 : decide (x9_1 < (l0_0.length : Int)) = false := decide_eq_false c8
    clear c8
    obtain rfl := Option.some.inj H
    have hnb19 := NB417_415.out
    have hnc19 := NB415_417.out
    have hnb20 := NB417_416.out
    have hnc20 := NB416_417.out
    have hcz21_0 : wr.cell? ⟨gb417, 0, none⟩ = some (u418000) := (blk_cell BK417.out 0).trans rfl
    have hfz21_0 := blk_frozen BK417.out 0
    obtain ⟨Ao22, co22, eo22⟩ := Kd.S_slice HO_418000.out
    subst eo22
    have hnb23 := NB416_415.out
    have hnc23 := NB415_416.out
    have hcz24_0 : wr.cell? ⟨gb416, 0, none⟩ = some (.slice none 0 0) := (blk_cell BK416.out 0).trans rfl
    have hfz24_0 := blk_frozen BK416.out 0
    go_wp2
    refine bodyPost_ret (results_cell_row rfl _ _ gb416 35 #[.slice Ao22 x418000_1.length co22] (0, 0) _ rfl (by (with_reducible repeat (first | refine blk_drewN ?_ _ | refine blk_drew ?_ | refine blk_alloc ?_ _)); refine blk_put (cs := #[.slice none 0 0]) ?_ 0 _ rfl; (with_reducible repeat (first | refine blk_drewN ?_ _ | refine blk_drew ?_ | refine blk_alloc ?_ _)); exact BK416.out) Try.underlying35 rfl (by kernel_rfl)) rfl ?_
    exact ⟨_, by first | rfl | (simp [errW_none, errW_some] <;> rfl) | (simp [*, errW_none, errW_some] <;> rfl), su (Kd.S_mono (Kd.S_far (p := ⟨gb416, 0, none⟩) (Kd.S_types HO_418000.out BK416.out (by decide)) (fun _ hk => hk.2) (.slice Ao22 x418000_1.length co22)) (fun _ hk => trivial)), z90_4⟩

end Go.Proofs.Ytefkbmhkhpekjaa.PB

namespace Go.Proofs.Ytefkbmhkhpekjaa.PB
open Go.RowKit Go.Proofs.YtefkbmhkhpekjaaW.PrintWords Go.Proofs.YtefkbmhkhpekjaaW.PrintLast Go.Proofs.YtefkbmhkhpekjaaW.PrintMore
attribute [local go_sem] max2_int min2_int max_two min_two max_three min_three max_four min_four   -- for this text's walks alone
open Go.Proofs.YtefkbmhkhpekjaaMine
set_option linter.unusedVariables false
set_option linter.unusedSimpArgs false

theorem z82_1 {p : Prop} (h : p := by injection e with e; omega) : p := h
theorem z82_2 {p : Prop} (h : p := by injection hk with hk; rw [← hk]; exact HRn.out) : p := h
theorem z82_3 {p : Prop} (h : p := by simp only [List.length_append, List.length_cons]; omega) : p := h
/-! ### impl_Prog_each: function 82 -/
def mapO {α β : Type} (F : α → Option β) : List α → Option (List β)
  | [] => some []
  | x :: xs => (F x).bind fun y => (mapO F xs).bind fun ys => some (y :: ys)
set_option maxRecDepth 100000 in
set_option maxHeartbeats 8000000 in
theorem each83 (k : Nat) (F : S85 → Option S85) (cv : Value) (A : Option Addr) (c : Nat) (l cl r : List (List S85)) (w : World) (hC : Kd.C (Kd.slice 85 k85) w A l.length l) (hc : l.length ≤ c)
    (hcl : ∀ (W : World) (d r : S85), Below w.heap.size w W → F d = some r → Calls Try.prog 83 #[.agg #[.int .i64 d.f0, .int .i64 d.f1, .int .i64 d.f2], cv] W fun e W' => e = .returned (.agg #[.int .i64 r.f0, .int .i64 r.f1, .int .i64 r.f2]) ∧ Below W.heap.size W W')
    (h1 : impl_Prog_copied.f k l = some cl) (h2 : mapO (mapO F) cl = some r) :
    Calls Try.prog 82 #[.agg #[.slice A l.length c], .func (.func 83) #[] #[cv]] w fun e w' => ∃ v_ : Value, e = .returned (.agg #[v_]) ∧ Kd.S (Kd.slice 85 k85) 82 w' w.heap.size (fun _ => True) v_ r ∧ Below w.heap.size w w' := by
  have HC := am_ hC
  have HF := am_ hcl
  have H1 := am_ h1
  have H2 := am_ h2
  clear hC hcl h1 h2
  go_enter Try.func82, Try.ntmps82
  go_wp2_with (go_at_call 90; refine park ?_)
  refine ⟨?_⟩
  have BR0 := am_ (heap_alloc_new (w.alloc (Obj.cells #[Value.slice A l.length c] 35)) (Obj.cells #[Value.slice none 0 0] 35))
  refine (impl_Prog_copied.calls k A c l cl _ (Kd.C_alloc (Kd.C_alloc HC.out _) _) hc H1.out).mono ?_
  rintro e w1 ⟨v0, rfl, hS, hb⟩
  obtain ⟨Av, cv0, rfl⟩ := Kd.S_slice hS
  have SZ : ((w.alloc (Obj.cells #[Value.slice A l.length c] 35)).alloc (Obj.cells #[Value.slice none 0 0] 35)).heap.size = w.heap.size + 2 := by rw [World.size_alloc, World.size_alloc]
  rw [World.size_alloc] at BR0
  have hcl : cl.length ≤ 9223372036854775807 := (Kd.R_reads' (Kd.S_R hS)).2.2.2.1
  have HB1 := am_ (below_then (below_alloc (below_alloc (Below.refl w.heap.size w) _) _) (below_alloc (below_alloc (Below.refl w.heap.size w) _) _).size hb)
  have BR1 := am_ (blk_below BR0.out hb)
  have hS2 := Kd.S_bound hS
  rw [SZ] at hS2
  have HS1 := am_ (Kd.S_lower (Kd.S_mono (ok' := fun k => w.heap.size + 2 ≤ k ∧ k < w1.heap.size) hS2 (fun k hk => ⟨hk.2.1, hk.2.2.1⟩)) (show w.heap.size ≤ w.heap.size + 2 by omega))
  have LT1 := am_ (show w.heap.size + 2 ≤ w1.heap.size by have := hb.size; omega)
  clear hS hS2 hb BR0 SZ
  have BP2 := am_ (heap_alloc_new w1 (Obj.cells #[Value.slice Av cl.length cv0] 35))
  have HB2 := am_ (below_alloc HB1.out (Obj.cells #[Value.slice Av cl.length cv0] 35))
  have BR2 := am_ (blk_alloc BR1.out (Obj.cells #[Value.slice Av cl.length cv0] 35))
  have HS2 := am_ (Kd.S_alloc HS1.out (Obj.cells #[Value.slice Av cl.length cv0] 35))
  clear HB1 BR1 HS1
  go_wp2_with fail
  go_loopg [15] cl.length (fun kq v15 w' => ∃ (done rest rest' : List (List S85)), v15 = .int .i64 done.length ∧ rest.length = kq ∧ Aside0 (done.length + rest.length = cl.length) ∧ Aside0 (mapO (mapO F) rest = some rest') ∧ Aside0 (r = done ++ rest') ∧
    Aside0 (Kd.S (Kd.slice 85 k85) 82 w' w.heap.size (fun k => w.heap.size + 2 ≤ k ∧ k < w1.heap.size) (.slice Av cl.length cv0) (done ++ rest)) ∧ Aside0 (Below w.heap.size w w') ∧ Aside0 (w'.heap[w.heap.size + 1]? = some (Obj.cells #[Value.slice none 0 0] 35)) ∧ Aside0 (w'.heap[w1.heap.size]? = some (Obj.cells #[Value.slice Av cl.length cv0] 35)))
  case atStart => exact ⟨[], cl, r, rfl, rfl, ⟨by simp⟩, H2, ⟨rfl⟩, HS2, HB2, BR2, BP2⟩
  case round =>
    obtain ⟨done, rest, rest', rfl, hkq, HL, HM, HR, HSr, HBr, BRr, BPr⟩ := hrel
    clear HB2 BR2 BP2 HS2 HC H1 H2
    cases rest with
    | nil =>
      have hrs' : rest' = [] := by have := HM.out; simp only [mapO, Option.some.injEq] at this; exact this.symm
      subst hrs'
      have hge : ¬ (done.length : Int) < (cl.length : Int) := by have := HL.out; simp only [List.length_nil] at this; omega
      have hcp : wr.cell? ⟨w1.heap.size, 0, none⟩ = some (.slice Av cl.length cv0) := (blk_cell BPr.out 0).trans rfl
      have hcr : wr.cell? ⟨w.heap.size + 1, 0, none⟩ = some (.slice none 0 0) := (blk_cell BRr.out 0).trans rfl
      have hfr := blk_frozen BRr.out 0
      go_wp2_with fail
      refine bodyPost_ret (results_cell_row rfl _ _ (w.heap.size + 1) 35 #[.slice Av cl.length cv0] (0, 0) _ rfl (blk_set BRr.out 0 _) Try.underlying35 rfl (by kernel_rfl)) rfl ?_
      refine ⟨_, rfl, ?_, below_set HBr.out (by omega)⟩
      have h := HSr.out
      rw [List.append_nil] at h
      have e := HR.out
      rw [List.append_nil] at e
      rw [e]
      exact Kd.S_mono (Kd.S_far (p := ⟨w.heap.size + 1, 0, none⟩) h (fun k hk => by show k ≠ w.heap.size + 1; omega) _) (fun _ _ => trivial)
    | cons row rest1 =>
      have HMM := HM.out
      clear HM
      simp only [mapO] at HMM
      obtain ⟨row', hm1, HMM⟩ := Option.bind_eq_some_iff.mp HMM
      obtain ⟨rest1', hm2, HMM⟩ := Option.bind_eq_some_iff.mp HMM
      simp only [Option.some.injEq] at HMM
      subst HMM
      have M1 := am_ hm1
      have M2 := am_ hm2
      clear hm1 hm2
      have hlt : (done.length : Int) < (cl.length : Int) := by have := HL.out; simp only [List.length_cons] at this; omega
      obtain ⟨g, cap, eA, hg0, hgl, cells, hcells⟩ := Kd.S_form HSr.out z82_3
      have hS := HSr.out
      have eL : (done ++ row :: rest1).length = cl.length := by have := HL.out; simpa using this
      rw [eL] at eA
      rw [eA] at hS
      obtain ⟨oki, cs, hlen, hM, hcc, hoki, hH⟩ := Kd.S_lend hS [] (done.length : Int) (by omega) (by omega)
      rw [show (done ++ row :: rest1).getD (done.length : Int).toNat [] = row by simp] at hM
      obtain ⟨u, rfl, hRu⟩ := hM
      obtain ⟨Au, cu, rfl⟩ := Kd.R_slice hRu
      have hcu : wr.cell? ⟨g, done.length, none⟩ = some (.slice Au row.length cu) := by have h1 := hcc 0 _ rfl; rwa [show (done.length : Int).toNat * (Kd.slice 85 k85).sz + 0 = done.length from by show (done.length : Int).toNat * 1 + 0 = _; omega] at h1
      have hfu := blk_frozen hcells done.length
      have HRu := am_ hRu
      have HHr := am_ hH
      have HOK := am_ hoki
      clear hcells hRu hH hoki hS hcc
      go_wp2_with fail
      clear hcu hfu
      have hrl : row.length ≤ 9223372036854775807 := (Kd.R_reads' HRu.out).2.2.2.1
      go_loopg [21] row.length (fun jq v21 W => ∃ (dn rs rs' : List S85), v21 = .int .i64 dn.length ∧ rs.length = jq ∧ Aside0 (dn.length + rs.length = row.length) ∧ Aside0 (mapO F rs = some rs') ∧ Aside0 (row' = dn ++ rs') ∧
        Aside0 (Kd.R k85 85 W w.heap.size oki (.slice Au row.length cu) (dn ++ rs)) ∧ Aside0 (Kd.H (Kd.slice 85 k85) 82 W w.heap.size (fun k => w.heap.size + 2 ≤ k ∧ k < w1.heap.size) (.slice (some ⟨g, 0, none⟩) cl.length cv0) (done ++ row :: rest1) done.length oki [.slice Au row.length cu]) ∧
        Aside0 (Below w.heap.size w W) ∧ Aside0 (W.heap[w.heap.size + 1]? = some (Obj.cells #[Value.slice none 0 0] 35)) ∧ Aside0 (W.heap[w1.heap.size]? = some (Obj.cells #[Value.slice (some ⟨g, 0, none⟩) cl.length cv0] 35)))
      case atStart => exact ⟨[], row, row', rfl, rfl, ⟨by simp⟩, M1, ⟨rfl⟩, HRu, HHr, HBr, BRr, BPr⟩
      case round =>
        obtain ⟨dn, rs, rs', rfl, hjq, HLi, HMi, HRi, HRw, HHw, HBw, BRw, BPw⟩ := hrel
        clear HRu HHr HBr BRr BPr M1 HSr
        cases rs with
        | nil =>
          have hrs' : rs' = [] := by have := HMi.out; simp only [mapO, Option.some.injEq] at this; exact this.symm
          subst hrs'
          have hge : ¬ (dn.length : Int) < (row.length : Int) := by have := HLi.out; simp only [List.length_nil] at this; omega
          have HSn := am_ (show Kd.S (Kd.slice 85 k85) 82 wr w.heap.size (fun k => w.heap.size + 2 ≤ k ∧ k < w1.heap.size) (.slice (some ⟨g, 0, none⟩) cl.length cv0) (done ++ [row'] ++ rest1) from by
            have h := Kd.H_back HHw.out (Kd.M_row HRw.out) (fun k hk => hk)
            rw [show (done ++ row :: rest1).set (done.length : Int).toNat (dn ++ []) = done ++ [row'] ++ rest1 from by rw [Int.toNat_natCast, List.set_append_right _ _ (Nat.le_refl _), HRi.out]; simp] at h
            exact h)
          clear HRw HHw
          go_wp2_with fail
          go_roundg rest1.length
          case measure => simp only [List.length_cons] at hkq; omega
          case rel => exact ⟨done ++ [row'], rest1, rest1', by simp, rfl, ⟨by have := HL.out; simp only [List.length_cons] at this; simp only [List.length_append, List.length_singleton]; omega⟩, M2, ⟨by rw [HR.out]; simp⟩, HSn, HBw, BRw, BPw⟩
        | cons d rs1 =>
          have HMM := HMi.out
          clear HMi
          simp only [mapO] at HMM
          obtain ⟨d', hm1, HMM⟩ := Option.bind_eq_some_iff.mp HMM
          obtain ⟨rs1', hm3, HMM⟩ := Option.bind_eq_some_iff.mp HMM
          simp only [Option.some.injEq] at HMM
          subst HMM
          have N1 := am_ hm1
          have N2 := am_ hm3
          clear hm1 hm3
          have hlti : (dn.length : Int) < (row.length : Int) := by have := HLi.out; simp only [List.length_cons] at this; omega
          obtain ⟨gi, capi, eAi, hgi0, hgil, cellsi, hcellsi⟩ := Kd.R_form HRw.out z82_3
          have hR := HRw.out
          have eLi : (dn ++ d :: rs1).length = row.length := by have := HLi.out; simpa using this
          rw [eLi] at eAi
          rw [eAi] at hR
          obtain ⟨ce, hce, hMe, hcce, hfre⟩ := Kd.R_elem hR z85 (dn.length : Int) (by omega) (by omega)
          rw [show (dn ++ d :: rs1).getD (dn.length : Int).toNat z85 = d by simp] at hMe
          obtain rfl := k85_openM hMe
          have hx0 := hcce 0 _ rfl
          have hx1 := hcce 1 _ rfl
          have hx2 := hcce 2 _ rfl
          rw [show (dn.length : Int).toNat * (k85).sz + 0 = dn.length * 3 from by show (dn.length : Int).toNat * 3 + 0 = _; omega] at hx0
          rw [show (dn.length : Int).toNat * (k85).sz + 1 = dn.length * 3 + 1 from by show (dn.length : Int).toNat * 3 + 1 = _; omega] at hx1
          rw [show (dn.length : Int).toNat * (k85).sz + 2 = dn.length * 3 + 2 from by show (dn.length : Int).toNat * 3 + 2 = _; omega] at hx2
          have HRo := am_ hR
          clear hMe hR hcce hfre
          go_wp2_with (go_at_call 83; refine park ?_)
          clear hx0 hx1 hx2
          refine ⟨?_⟩
          refine (HF.out _ d d' (below_alloc HBw.out _) N1.out).mono ?_
          rintro e w2 ⟨rfl, hb⟩
          have HB3 := am_ (below_then (below_alloc HBw.out (Obj.cells #[Value.int IntKind.i64 d.f0, Value.int IntKind.i64 d.f1, Value.int IntKind.i64 d.f2] 85)) (below_alloc HBw.out (Obj.cells #[Value.int IntKind.i64 d.f0, Value.int IntKind.i64 d.f1, Value.int IntKind.i64 d.f2] 85)).size hb)
          have hR3 := Kd.R_below (Kd.R_alloc HRo.out (Obj.cells #[Value.int IntKind.i64 d.f0, Value.int IntKind.i64 d.f1, Value.int IntKind.i64 d.f2] 85)) hb
          have HH3 := am_ (Kd.H_below (Kd.H_alloc HHw.out (Obj.cells #[Value.int IntKind.i64 d.f0, Value.int IntKind.i64 d.f1, Value.int IntKind.i64 d.f2] 85)) hb)
          have BR3 := am_ (blk_below (blk_alloc BRw.out (Obj.cells #[Value.int IntKind.i64 d.f0, Value.int IntKind.i64 d.f1, Value.int IntKind.i64 d.f2] 85)) hb)
          have BP3 := am_ (blk_below (blk_alloc BPw.out (Obj.cells #[Value.int IntKind.i64 d.f0, Value.int IntKind.i64 d.f1, Value.int IntKind.i64 d.f2] 85)) hb)
          have HRn := am_ (HRw.out.1 gi rfl)
          clear HBw HHw BRw BPw HRo HRw hb
          obtain ⟨ce, hce, hMe, hcce, hfre⟩ := Kd.R_elem hR3 z85 (dn.length : Int) (by omega) (by omega)
          rw [show (dn ++ d :: rs1).getD (dn.length : Int).toNat z85 = d by simp] at hMe
          obtain rfl := k85_openM hMe
          have HP := am_ (Kd.R_seg hR3 (dn.length : Int) (by omega) (by omega) (seg := [.int .i64 d'.f0, .int .i64 d'.f1, .int .i64 d'.f2]) (j := 0) hce hcce (show 3 ≤ 3 from by decide) (x' := d') (k85_mkM _ _ _ d') (fun _ hk => hk))
          have hx0 := hcce 0 _ rfl
          have hx1 := hcce 1 _ rfl
          have hx2 := hcce 2 _ rfl
          have hf0 := hfre 0
          have hf1 := hfre 1
          have hf2 := hfre 2
          have e0 : (dn.length : Int).toNat * (k85).sz + 0 = dn.length * 3 := by show (dn.length : Int).toNat * 3 + 0 = _; omega
          have e1 : (dn.length : Int).toNat * (k85).sz + 1 = dn.length * 3 + 1 := by show (dn.length : Int).toNat * 3 + 1 = _; omega
          have e2 : (dn.length : Int).toNat * (k85).sz + 2 = dn.length * 3 + 2 := by show (dn.length : Int).toNat * 3 + 2 = _; omega
          rw [e0] at hx0 hf0
          rw [e1] at hx1 hf1
          rw [e2] at hx2 hf2
          clear e0 e1 e2 hMe hcce hfre hR3
          have HP' := am_ (show Kd.R k85 85 (((w2.setCell ⟨gi, dn.length * 3, none⟩ (.int .i64 d'.f0)).setCell ⟨gi, dn.length * 3 + 1, none⟩ (.int .i64 d'.f1)).setCell ⟨gi, dn.length * 3 + 2, none⟩ (.int .i64 d'.f2)) w.heap.size oki (.slice (some ⟨gi, 0, none⟩) row.length cu) (dn ++ [d'] ++ rs1) ∧ w2.grownBy (((w2.setCell ⟨gi, dn.length * 3, none⟩ (.int .i64 d'.f0)).setCell ⟨gi, dn.length * 3 + 1, none⟩ (.int .i64 d'.f1)).setCell ⟨gi, dn.length * 3 + 2, none⟩ (.int .i64 d'.f2)) (some gi) from by
            have h := HP.out
            rw [show (dn.length : Int).toNat * (k85).sz + 0 = dn.length * 3 from by show (dn.length : Int).toNat * 3 + 0 = _; omega, show (dn ++ d :: rs1).set (dn.length : Int).toNat d' = dn ++ [d'] ++ rs1 from by rw [Int.toNat_natCast, List.set_append_right _ _ (Nat.le_refl _)]; simp] at h
            exact h)
          clear HP
          go_wp2_with fail
          clear hx0 hx1 hx2 hf0 hf1 hf2
          go_roundg rs1.length
          case measure => simp only [List.length_cons] at hjq; omega
          case rel =>
            have hOKn := (HOK.out _ HRn.out).1
            exact ⟨dn ++ [d'], rs1, rs1', by simp, rfl, ⟨by have := HLi.out; simp only [List.length_cons] at this; simp only [List.length_append, List.length_singleton]; omega⟩, N2, ⟨by rw [HRi.out]; simp⟩, ⟨HP'.out.1⟩, ⟨Kd.H_grown HH3.out HP'.out.2 (fun k hk => z82_2)⟩,
              ⟨HB3.out.grown HP'.out.2 HB3.out.size (fun k hk => by injection hk with hk; omega)⟩, ⟨blk_grown BR3.out HP'.out.2 (fun e => z82_1)⟩, ⟨blk_grown BP3.out HP'.out.2 (fun e => z82_1)⟩⟩
set_option maxRecDepth 100000 in
set_option maxHeartbeats 8000000 in
theorem each99 (k : Nat) (F : S85 → Option S85) (cv : Value) (A : Option Addr) (c : Nat) (l cl r : List (List S85)) (w : World) (hC : Kd.C (Kd.slice 85 k85) w A l.length l) (hc : l.length ≤ c)
    (hcl : ∀ (W : World) (d r : S85), Below w.heap.size w W → F d = some r → Calls Try.prog 99 #[.agg #[.int .i64 d.f0, .int .i64 d.f1, .int .i64 d.f2], cv] W fun e W' => e = .returned (.agg #[.int .i64 r.f0, .int .i64 r.f1, .int .i64 r.f2]) ∧ Below W.heap.size W W')
    (h1 : impl_Prog_copied.f k l = some cl) (h2 : mapO (mapO F) cl = some r) :
    Calls Try.prog 82 #[.agg #[.slice A l.length c], .func (.func 99) #[] #[cv]] w fun e w' => ∃ v_ : Value, e = .returned (.agg #[v_]) ∧ Kd.S (Kd.slice 85 k85) 82 w' w.heap.size (fun _ => True) v_ r ∧ Below w.heap.size w w' := by
  have HC := am_ hC
  have HF := am_ hcl
  have H1 := am_ h1
  have H2 := am_ h2
  clear hC hcl h1 h2
  go_enter Try.func82, Try.ntmps82
  go_wp2_with (go_at_call 90; refine park ?_)
  refine ⟨?_⟩
  have BR0 := am_ (heap_alloc_new (w.alloc (Obj.cells #[Value.slice A l.length c] 35)) (Obj.cells #[Value.slice none 0 0] 35))
  refine (impl_Prog_copied.calls k A c l cl _ (Kd.C_alloc (Kd.C_alloc HC.out _) _) hc H1.out).mono ?_
  rintro e w1 ⟨v0, rfl, hS, hb⟩
  obtain ⟨Av, cv0, rfl⟩ := Kd.S_slice hS
  have SZ : ((w.alloc (Obj.cells #[Value.slice A l.length c] 35)).alloc (Obj.cells #[Value.slice none 0 0] 35)).heap.size = w.heap.size + 2 := by rw [World.size_alloc, World.size_alloc]
  rw [World.size_alloc] at BR0
  have hcl : cl.length ≤ 9223372036854775807 := (Kd.R_reads' (Kd.S_R hS)).2.2.2.1
  have HB1 := am_ (below_then (below_alloc (below_alloc (Below.refl w.heap.size w) _) _) (below_alloc (below_alloc (Below.refl w.heap.size w) _) _).size hb)
  have BR1 := am_ (blk_below BR0.out hb)
  have hS2 := Kd.S_bound hS
  rw [SZ] at hS2
  have HS1 := am_ (Kd.S_lower (Kd.S_mono (ok' := fun k => w.heap.size + 2 ≤ k ∧ k < w1.heap.size) hS2 (fun k hk => ⟨hk.2.1, hk.2.2.1⟩)) (show w.heap.size ≤ w.heap.size + 2 by omega))
  have LT1 := am_ (show w.heap.size + 2 ≤ w1.heap.size by have := hb.size; omega)
  clear hS hS2 hb BR0 SZ
  have BP2 := am_ (heap_alloc_new w1 (Obj.cells #[Value.slice Av cl.length cv0] 35))
  have HB2 := am_ (below_alloc HB1.out (Obj.cells #[Value.slice Av cl.length cv0] 35))
  have BR2 := am_ (blk_alloc BR1.out (Obj.cells #[Value.slice Av cl.length cv0] 35))
  have HS2 := am_ (Kd.S_alloc HS1.out (Obj.cells #[Value.slice Av cl.length cv0] 35))
  clear HB1 BR1 HS1
  go_wp2_with fail
  go_loopg [15] cl.length (fun kq v15 w' => ∃ (done rest rest' : List (List S85)), v15 = .int .i64 done.length ∧ rest.length = kq ∧ Aside0 (done.length + rest.length = cl.length) ∧ Aside0 (mapO (mapO F) rest = some rest') ∧ Aside0 (r = done ++ rest') ∧
    Aside0 (Kd.S (Kd.slice 85 k85) 82 w' w.heap.size (fun k => w.heap.size + 2 ≤ k ∧ k < w1.heap.size) (.slice Av cl.length cv0) (done ++ rest)) ∧ Aside0 (Below w.heap.size w w') ∧ Aside0 (w'.heap[w.heap.size + 1]? = some (Obj.cells #[Value.slice none 0 0] 35)) ∧ Aside0 (w'.heap[w1.heap.size]? = some (Obj.cells #[Value.slice Av cl.length cv0] 35)))
  case atStart => exact ⟨[], cl, r, rfl, rfl, ⟨by simp⟩, H2, ⟨rfl⟩, HS2, HB2, BR2, BP2⟩
  case round =>
    obtain ⟨done, rest, rest', rfl, hkq, HL, HM, HR, HSr, HBr, BRr, BPr⟩ := hrel
    clear HB2 BR2 BP2 HS2 HC H1 H2
    cases rest with
    | nil =>
      have hrs' : rest' = [] := by have := HM.out; simp only [mapO, Option.some.injEq] at this; exact this.symm
      subst hrs'
      have hge : ¬ (done.length : Int) < (cl.length : Int) := by have := HL.out; simp only [List.length_nil] at this; omega
      have hcp : wr.cell? ⟨w1.heap.size, 0, none⟩ = some (.slice Av cl.length cv0) := (blk_cell BPr.out 0).trans rfl
      have hcr : wr.cell? ⟨w.heap.size + 1, 0, none⟩ = some (.slice none 0 0) := (blk_cell BRr.out 0).trans rfl
      have hfr := blk_frozen BRr.out 0
      go_wp2_with fail
      refine bodyPost_ret (results_cell_row rfl _ _ (w.heap.size + 1) 35 #[.slice Av cl.length cv0] (0, 0) _ rfl (blk_set BRr.out 0 _) Try.underlying35 rfl (by kernel_rfl)) rfl ?_
      refine ⟨_, rfl, ?_, below_set HBr.out (by omega)⟩
      have h := HSr.out
      rw [List.append_nil] at h
      have e := HR.out
      rw [List.append_nil] at e
      rw [e]
      exact Kd.S_mono (Kd.S_far (p := ⟨w.heap.size + 1, 0, none⟩) h (fun k hk => by show k ≠ w.heap.size + 1; omega) _) (fun _ _ => trivial)
    | cons row rest1 =>
      have HMM := HM.out
      clear HM
      simp only [mapO] at HMM
      obtain ⟨row', hm1, HMM⟩ := Option.bind_eq_some_iff.mp HMM
      obtain ⟨rest1', hm2, HMM⟩ := Option.bind_eq_some_iff.mp HMM
      simp only [Option.some.injEq] at HMM
      subst HMM
      have M1 := am_ hm1
      have M2 := am_ hm2
      clear hm1 hm2
      have hlt : (done.length : Int) < (cl.length : Int) := by have := HL.out; simp only [List.length_cons] at this; omega
      obtain ⟨g, cap, eA, hg0, hgl, cells, hcells⟩ := Kd.S_form HSr.out z82_3
      have hS := HSr.out
      have eL : (done ++ row :: rest1).length = cl.length := by have := HL.out; simpa using this
      rw [eL] at eA
      rw [eA] at hS
      obtain ⟨oki, cs, hlen, hM, hcc, hoki, hH⟩ := Kd.S_lend hS [] (done.length : Int) (by omega) (by omega)
      rw [show (done ++ row :: rest1).getD (done.length : Int).toNat [] = row by simp] at hM
      obtain ⟨u, rfl, hRu⟩ := hM
      obtain ⟨Au, cu, rfl⟩ := Kd.R_slice hRu
      have hcu : wr.cell? ⟨g, done.length, none⟩ = some (.slice Au row.length cu) := by have h1 := hcc 0 _ rfl; rwa [show (done.length : Int).toNat * (Kd.slice 85 k85).sz + 0 = done.length from by show (done.length : Int).toNat * 1 + 0 = _; omega] at h1
      have hfu := blk_frozen hcells done.length
      have HRu := am_ hRu
      have HHr := am_ hH
      have HOK := am_ hoki
      clear hcells hRu hH hoki hS hcc
      go_wp2_with fail
      clear hcu hfu
      have hrl : row.length ≤ 9223372036854775807 := (Kd.R_reads' HRu.out).2.2.2.1
      go_loopg [21] row.length (fun jq v21 W => ∃ (dn rs rs' : List S85), v21 = .int .i64 dn.length ∧ rs.length = jq ∧ Aside0 (dn.length + rs.length = row.length) ∧ Aside0 (mapO F rs = some rs') ∧ Aside0 (row' = dn ++ rs') ∧
        Aside0 (Kd.R k85 85 W w.heap.size oki (.slice Au row.length cu) (dn ++ rs)) ∧ Aside0 (Kd.H (Kd.slice 85 k85) 82 W w.heap.size (fun k => w.heap.size + 2 ≤ k ∧ k < w1.heap.size) (.slice (some ⟨g, 0, none⟩) cl.length cv0) (done ++ row :: rest1) done.length oki [.slice Au row.length cu]) ∧
        Aside0 (Below w.heap.size w W) ∧ Aside0 (W.heap[w.heap.size + 1]? = some (Obj.cells #[Value.slice none 0 0] 35)) ∧ Aside0 (W.heap[w1.heap.size]? = some (Obj.cells #[Value.slice (some ⟨g, 0, none⟩) cl.length cv0] 35)))
      case atStart => exact ⟨[], row, row', rfl, rfl, ⟨by simp⟩, M1, ⟨rfl⟩, HRu, HHr, HBr, BRr, BPr⟩
      case round =>
        obtain ⟨dn, rs, rs', rfl, hjq, HLi, HMi, HRi, HRw, HHw, HBw, BRw, BPw⟩ := hrel
        clear HRu HHr HBr BRr BPr M1 HSr
        cases rs with
        | nil =>
          have hrs' : rs' = [] := by have := HMi.out; simp only [mapO, Option.some.injEq] at this; exact this.symm
          subst hrs'
          have hge : ¬ (dn.length : Int) < (row.length : Int) := by have := HLi.out; simp only [List.length_nil] at this; omega
          have HSn := am_ (show Kd.S (Kd.slice 85 k85) 82 wr w.heap.size (fun k => w.heap.size + 2 ≤ k ∧ k < w1.heap.size) (.slice (some ⟨g, 0, none⟩) cl.length cv0) (done ++ [row'] ++ rest1) from by
            have h := Kd.H_back HHw.out (Kd.M_row HRw.out) (fun k hk => hk)
            rw [show (done ++ row :: rest1).set (done.length : Int).toNat (dn ++ []) = done ++ [row'] ++ rest1 from by rw [Int.toNat_natCast, List.set_append_right _ _ (Nat.le_refl _), HRi.out]; simp] at h
            exact h)
          clear HRw HHw
          go_wp2_with fail
          go_roundg rest1.length
          case measure => simp only [List.length_cons] at hkq; omega
          case rel => exact ⟨done ++ [row'], rest1, rest1', by simp, rfl, ⟨by have := HL.out; simp only [List.length_cons] at this; simp only [List.length_append, List.length_singleton]; omega⟩, M2, ⟨by rw [HR.out]; simp⟩, HSn, HBw, BRw, BPw⟩
        | cons d rs1 =>
          have HMM := HMi.out
          clear HMi
          simp only [mapO] at HMM
          obtain ⟨d', hm1, HMM⟩ := Option.bind_eq_some_iff.mp HMM
          obtain ⟨rs1', hm3, HMM⟩ := Option.bind_eq_some_iff.mp HMM
          simp only [Option.some.injEq] at HMM
          subst HMM
          have N1 := am_ hm1
          have N2 := am_ hm3
          clear hm1 hm3
          have hlti : (dn.length : Int) < (row.length : Int) := by have := HLi.out; simp only [List.length_cons] at this; omega
          obtain ⟨gi, capi, eAi, hgi0, hgil, cellsi, hcellsi⟩ := Kd.R_form HRw.out z82_3
          have hR := HRw.out
          have eLi : (dn ++ d :: rs1).length = row.length := by have := HLi.out; simpa using this
          rw [eLi] at eAi
          rw [eAi] at hR
          obtain ⟨ce, hce, hMe, hcce, hfre⟩ := Kd.R_elem hR z85 (dn.length : Int) (by omega) (by omega)
          rw [show (dn ++ d :: rs1).getD (dn.length : Int).toNat z85 = d by simp] at hMe
          obtain rfl := k85_openM hMe
          have hx0 := hcce 0 _ rfl
          have hx1 := hcce 1 _ rfl
          have hx2 := hcce 2 _ rfl
          rw [show (dn.length : Int).toNat * (k85).sz + 0 = dn.length * 3 from by show (dn.length : Int).toNat * 3 + 0 = _; omega] at hx0
          rw [show (dn.length : Int).toNat * (k85).sz + 1 = dn.length * 3 + 1 from by show (dn.length : Int).toNat * 3 + 1 = _; omega] at hx1
          rw [show (dn.length : Int).toNat * (k85).sz + 2 = dn.length * 3 + 2 from by show (dn.length : Int).toNat * 3 + 2 = _; omega] at hx2
          have HRo := am_ hR
          clear hMe hR hcce hfre
          go_wp2_with (go_at_call 99; refine park ?_)
          clear hx0 hx1 hx2
          refine ⟨?_⟩
          refine (HF.out _ d d' (below_alloc HBw.out _) N1.out).mono ?_
          rintro e w2 ⟨rfl, hb⟩
          have HB3 := am_ (below_then (below_alloc HBw.out (Obj.cells #[Value.int IntKind.i64 d.f0, Value.int IntKind.i64 d.f1, Value.int IntKind.i64 d.f2] 85)) (below_alloc HBw.out (Obj.cells #[Value.int IntKind.i64 d.f0, Value.int IntKind.i64 d.f1, Value.int IntKind.i64 d.f2] 85)).size hb)
          have hR3 := Kd.R_below (Kd.R_alloc HRo.out (Obj.cells #[Value.int IntKind.i64 d.f0, Value.int IntKind.i64 d.f1, Value.int IntKind.i64 d.f2] 85)) hb
          have HH3 := am_ (Kd.H_below (Kd.H_alloc HHw.out (Obj.cells #[Value.int IntKind.i64 d.f0, Value.int IntKind.i64 d.f1, Value.int IntKind.i64 d.f2] 85)) hb)
          have BR3 := am_ (blk_below (blk_alloc BRw.out (Obj.cells #[Value.int IntKind.i64 d.f0, Value.int IntKind.i64 d.f1, Value.int IntKind.i64 d.f2] 85)) hb)
          have BP3 := am_ (blk_below (blk_alloc BPw.out (Obj.cells #[Value.int IntKind.i64 d.f0, Value.int IntKind.i64 d.f1, Value.int IntKind.i64 d.f2] 85)) hb)
          have HRn := am_ (HRw.out.1 gi rfl)
          clear HBw HHw BRw BPw HRo HRw hb
          obtain ⟨ce, hce, hMe, hcce, hfre⟩ := Kd.R_elem hR3 z85 (dn.length : Int) (by omega) (by omega)
          rw [show (dn ++ d :: rs1).getD (dn.length : Int).toNat z85 = d by simp] at hMe
          obtain rfl := k85_openM hMe
          have HP := am_ (Kd.R_seg hR3 (dn.length : Int) (by omega) (by omega) (seg := [.int .i64 d'.f0, .int .i64 d'.f1, .int .i64 d'.f2]) (j := 0) hce hcce (show 3 ≤ 3 from by decide) (x' := d') (k85_mkM _ _ _ d') (fun _ hk => hk))
          have hx0 := hcce 0 _ rfl
          have hx1 := hcce 1 _ rfl
          have hx2 := hcce 2 _ rfl
          have hf0 := hfre 0
          have hf1 := hfre 1
          have hf2 := hfre 2
          have e0 : (dn.length : Int).toNat * (k85).sz + 0 = dn.length * 3 := by show (dn.length : Int).toNat * 3 + 0 = _; omega
          have e1 : (dn.length : Int).toNat * (k85).sz + 1 = dn.length * 3 + 1 := by show (dn.length : Int).toNat * 3 + 1 = _; omega
          have e2 : (dn.length : Int).toNat * (k85).sz + 2 = dn.length * 3 + 2 := by show (dn.length : Int).toNat * 3 + 2 = _; omega
          rw [e0] at hx0 hf0
          rw [e1] at hx1 hf1
          rw [e2] at hx2 hf2
          clear e0 e1 e2 hMe hcce hfre hR3
          have HP' := am_ (show Kd.R k85 85 (((w2.setCell ⟨gi, dn.length * 3, none⟩ (.int .i64 d'.f0)).setCell ⟨gi, dn.length * 3 + 1, none⟩ (.int .i64 d'.f1)).setCell ⟨gi, dn.length * 3 + 2, none⟩ (.int .i64 d'.f2)) w.heap.size oki (.slice (some ⟨gi, 0, none⟩) row.length cu) (dn ++ [d'] ++ rs1) ∧ w2.grownBy (((w2.setCell ⟨gi, dn.length * 3, none⟩ (.int .i64 d'.f0)).setCell ⟨gi, dn.length * 3 + 1, none⟩ (.int .i64 d'.f1)).setCell ⟨gi, dn.length * 3 + 2, none⟩ (.int .i64 d'.f2)) (some gi) from by
            have h := HP.out
            rw [show (dn.length : Int).toNat * (k85).sz + 0 = dn.length * 3 from by show (dn.length : Int).toNat * 3 + 0 = _; omega, show (dn ++ d :: rs1).set (dn.length : Int).toNat d' = dn ++ [d'] ++ rs1 from by rw [Int.toNat_natCast, List.set_append_right _ _ (Nat.le_refl _)]; simp] at h
            exact h)
          clear HP
          go_wp2_with fail
          clear hx0 hx1 hx2 hf0 hf1 hf2
          go_roundg rs1.length
          case measure => simp only [List.length_cons] at hjq; omega
          case rel =>
            have hOKn := (HOK.out _ HRn.out).1
            exact ⟨dn ++ [d'], rs1, rs1', by simp, rfl, ⟨by have := HLi.out; simp only [List.length_cons] at this; simp only [List.length_append, List.length_singleton]; omega⟩, N2, ⟨by rw [HRi.out]; simp⟩, ⟨HP'.out.1⟩, ⟨Kd.H_grown HH3.out HP'.out.2 (fun k hk => z82_2)⟩,
              ⟨HB3.out.grown HP'.out.2 HB3.out.size (fun k hk => by injection hk with hk; omega)⟩, ⟨blk_grown BR3.out HP'.out.2 (fun e => z82_1)⟩, ⟨blk_grown BP3.out HP'.out.2 (fun e => z82_1)⟩⟩
set_option maxRecDepth 100000 in
set_option maxHeartbeats 8000000 in
theorem each102 (k : Nat) (F : S85 → Option S85) (cv : Value) (A : Option Addr) (c : Nat) (l cl r : List (List S85)) (w : World) (hC : Kd.C (Kd.slice 85 k85) w A l.length l) (hc : l.length ≤ c)
    (hcl : ∀ (W : World) (d r : S85), Below w.heap.size w W → F d = some r → Calls Try.prog 102 #[.agg #[.int .i64 d.f0, .int .i64 d.f1, .int .i64 d.f2], cv] W fun e W' => e = .returned (.agg #[.int .i64 r.f0, .int .i64 r.f1, .int .i64 r.f2]) ∧ Below W.heap.size W W')
    (h1 : impl_Prog_copied.f k l = some cl) (h2 : mapO (mapO F) cl = some r) :
    Calls Try.prog 82 #[.agg #[.slice A l.length c], .func (.func 102) #[] #[cv]] w fun e w' => ∃ v_ : Value, e = .returned (.agg #[v_]) ∧ Kd.S (Kd.slice 85 k85) 82 w' w.heap.size (fun _ => True) v_ r ∧ Below w.heap.size w w' := by
  have HC := am_ hC
  have HF := am_ hcl
  have H1 := am_ h1
  have H2 := am_ h2
  clear hC hcl h1 h2
  go_enter Try.func82, Try.ntmps82
  go_wp2_with (go_at_call 90; refine park ?_)
  refine ⟨?_⟩
  have BR0 := am_ (heap_alloc_new (w.alloc (Obj.cells #[Value.slice A l.length c] 35)) (Obj.cells #[Value.slice none 0 0] 35))
  refine (impl_Prog_copied.calls k A c l cl _ (Kd.C_alloc (Kd.C_alloc HC.out _) _) hc H1.out).mono ?_
  rintro e w1 ⟨v0, rfl, hS, hb⟩
  obtain ⟨Av, cv0, rfl⟩ := Kd.S_slice hS
  have SZ : ((w.alloc (Obj.cells #[Value.slice A l.length c] 35)).alloc (Obj.cells #[Value.slice none 0 0] 35)).heap.size = w.heap.size + 2 := by rw [World.size_alloc, World.size_alloc]
  rw [World.size_alloc] at BR0
  have hcl : cl.length ≤ 9223372036854775807 := (Kd.R_reads' (Kd.S_R hS)).2.2.2.1
  have HB1 := am_ (below_then (below_alloc (below_alloc (Below.refl w.heap.size w) _) _) (below_alloc (below_alloc (Below.refl w.heap.size w) _) _).size hb)
  have BR1 := am_ (blk_below BR0.out hb)
  have hS2 := Kd.S_bound hS
  rw [SZ] at hS2
  have HS1 := am_ (Kd.S_lower (Kd.S_mono (ok' := fun k => w.heap.size + 2 ≤ k ∧ k < w1.heap.size) hS2 (fun k hk => ⟨hk.2.1, hk.2.2.1⟩)) (show w.heap.size ≤ w.heap.size + 2 by omega))
  have LT1 := am_ (show w.heap.size + 2 ≤ w1.heap.size by have := hb.size; omega)
  clear hS hS2 hb BR0 SZ
  have BP2 := am_ (heap_alloc_new w1 (Obj.cells #[Value.slice Av cl.length cv0] 35))
  have HB2 := am_ (below_alloc HB1.out (Obj.cells #[Value.slice Av cl.length cv0] 35))
  have BR2 := am_ (blk_alloc BR1.out (Obj.cells #[Value.slice Av cl.length cv0] 35))
  have HS2 := am_ (Kd.S_alloc HS1.out (Obj.cells #[Value.slice Av cl.length cv0] 35))
  clear HB1 BR1 HS1
  go_wp2_with fail
  go_loopg [15] cl.length (fun kq v15 w' => ∃ (done rest rest' : List (List S85)), v15 = .int .i64 done.length ∧ rest.length = kq ∧ Aside0 (done.length + rest.length = cl.length) ∧ Aside0 (mapO (mapO F) rest = some rest') ∧ Aside0 (r = done ++ rest') ∧
    Aside0 (Kd.S (Kd.slice 85 k85) 82 w' w.heap.size (fun k => w.heap.size + 2 ≤ k ∧ k < w1.heap.size) (.slice Av cl.length cv0) (done ++ rest)) ∧ Aside0 (Below w.heap.size w w') ∧ Aside0 (w'.heap[w.heap.size + 1]? = some (Obj.cells #[Value.slice none 0 0] 35)) ∧ Aside0 (w'.heap[w1.heap.size]? = some (Obj.cells #[Value.slice Av cl.length cv0] 35)))
  case atStart => exact ⟨[], cl, r, rfl, rfl, ⟨by simp⟩, H2, ⟨rfl⟩, HS2, HB2, BR2, BP2⟩
  case round =>
    obtain ⟨done, rest, rest', rfl, hkq, HL, HM, HR, HSr, HBr, BRr, BPr⟩ := hrel
    clear HB2 BR2 BP2 HS2 HC H1 H2
    cases rest with
    | nil =>
      have hrs' : rest' = [] := by have := HM.out; simp only [mapO, Option.some.injEq] at this; exact this.symm
      subst hrs'
      have hge : ¬ (done.length : Int) < (cl.length : Int) := by have := HL.out; simp only [List.length_nil] at this; omega
      have hcp : wr.cell? ⟨w1.heap.size, 0, none⟩ = some (.slice Av cl.length cv0) := (blk_cell BPr.out 0).trans rfl
      have hcr : wr.cell? ⟨w.heap.size + 1, 0, none⟩ = some (.slice none 0 0) := (blk_cell BRr.out 0).trans rfl
      have hfr := blk_frozen BRr.out 0
      go_wp2_with fail
      refine bodyPost_ret (results_cell_row rfl _ _ (w.heap.size + 1) 35 #[.slice Av cl.length cv0] (0, 0) _ rfl (blk_set BRr.out 0 _) Try.underlying35 rfl (by kernel_rfl)) rfl ?_
      refine ⟨_, rfl, ?_, below_set HBr.out (by omega)⟩
      have h := HSr.out
      rw [List.append_nil] at h
      have e := HR.out
      rw [List.append_nil] at e
      rw [e]
      exact Kd.S_mono (Kd.S_far (p := ⟨w.heap.size + 1, 0, none⟩) h (fun k hk => by show k ≠ w.heap.size + 1; omega) _) (fun _ _ => trivial)
    | cons row rest1 =>
      have HMM := HM.out
      clear HM
      simp only [mapO] at HMM
      obtain ⟨row', hm1, HMM⟩ := Option.bind_eq_some_iff.mp HMM
      obtain ⟨rest1', hm2, HMM⟩ := Option.bind_eq_some_iff.mp HMM
      simp only [Option.some.injEq] at HMM
      subst HMM
      have M1 := am_ hm1
      have M2 := am_ hm2
      clear hm1 hm2
      have hlt : (done.length : Int) < (cl.length : Int) := by have := HL.out; simp only [List.length_cons] at this; omega
      obtain ⟨g, cap, eA, hg0, hgl, cells, hcells⟩ := Kd.S_form HSr.out z82_3
      have hS := HSr.out
      have eL : (done ++ row :: rest1).length = cl.length := by have := HL.out; simpa using this
      rw [eL] at eA
      rw [eA] at hS
      obtain ⟨oki, cs, hlen, hM, hcc, hoki, hH⟩ := Kd.S_lend hS [] (done.length : Int) (by omega) (by omega)
      rw [show (done ++ row :: rest1).getD (done.length : Int).toNat [] = row by simp] at hM
      obtain ⟨u, rfl, hRu⟩ := hM
      obtain ⟨Au, cu, rfl⟩ := Kd.R_slice hRu
      have hcu : wr.cell? ⟨g, done.length, none⟩ = some (.slice Au row.length cu) := by have h1 := hcc 0 _ rfl; rwa [show (done.length : Int).toNat * (Kd.slice 85 k85).sz + 0 = done.length from by show (done.length : Int).toNat * 1 + 0 = _; omega] at h1
      have hfu := blk_frozen hcells done.length
      have HRu := am_ hRu
      have HHr := am_ hH
      have HOK := am_ hoki
      clear hcells hRu hH hoki hS hcc
      go_wp2_with fail
      clear hcu hfu
      have hrl : row.length ≤ 9223372036854775807 := (Kd.R_reads' HRu.out).2.2.2.1
      go_loopg [21] row.length (fun jq v21 W => ∃ (dn rs rs' : List S85), v21 = .int .i64 dn.length ∧ rs.length = jq ∧ Aside0 (dn.length + rs.length = row.length) ∧ Aside0 (mapO F rs = some rs') ∧ Aside0 (row' = dn ++ rs') ∧
        Aside0 (Kd.R k85 85 W w.heap.size oki (.slice Au row.length cu) (dn ++ rs)) ∧ Aside0 (Kd.H (Kd.slice 85 k85) 82 W w.heap.size (fun k => w.heap.size + 2 ≤ k ∧ k < w1.heap.size) (.slice (some ⟨g, 0, none⟩) cl.length cv0) (done ++ row :: rest1) done.length oki [.slice Au row.length cu]) ∧
        Aside0 (Below w.heap.size w W) ∧ Aside0 (W.heap[w.heap.size + 1]? = some (Obj.cells #[Value.slice none 0 0] 35)) ∧ Aside0 (W.heap[w1.heap.size]? = some (Obj.cells #[Value.slice (some ⟨g, 0, none⟩) cl.length cv0] 35)))
      case atStart => exact ⟨[], row, row', rfl, rfl, ⟨by simp⟩, M1, ⟨rfl⟩, HRu, HHr, HBr, BRr, BPr⟩
      case round =>
        obtain ⟨dn, rs, rs', rfl, hjq, HLi, HMi, HRi, HRw, HHw, HBw, BRw, BPw⟩ := hrel
        clear HRu HHr HBr BRr BPr M1 HSr
        cases rs with
        | nil =>
          have hrs' : rs' = [] := by have := HMi.out; simp only [mapO, Option.some.injEq] at this; exact this.symm
          subst hrs'
          have hge : ¬ (dn.length : Int) < (row.length : Int) := by have := HLi.out; simp only [List.length_nil] at this; omega
          have HSn := am_ (show Kd.S (Kd.slice 85 k85) 82 wr w.heap.size (fun k => w.heap.size + 2 ≤ k ∧ k < w1.heap.size) (.slice (some ⟨g, 0, none⟩) cl.length cv0) (done ++ [row'] ++ rest1) from by
            have h := Kd.H_back HHw.out (Kd.M_row HRw.out) (fun k hk => hk)
            rw [show (done ++ row :: rest1).set (done.length : Int).toNat (dn ++ []) = done ++ [row'] ++ rest1 from by rw [Int.toNat_natCast, List.set_append_right _ _ (Nat.le_refl _), HRi.out]; simp] at h
            exact h)
          clear HRw HHw
          go_wp2_with fail
          go_roundg rest1.length
          case measure => simp only [List.length_cons] at hkq; omega
          case rel => exact ⟨done ++ [row'], rest1, rest1', by simp, rfl, ⟨by have := HL.out; simp only [List.length_cons] at this; simp only [List.length_append, List.length_singleton]; omega⟩, M2, ⟨by rw [HR.out]; simp⟩, HSn, HBw, BRw, BPw⟩
        | cons d rs1 =>
          have HMM := HMi.out
          clear HMi
          simp only [mapO] at HMM
          obtain ⟨d', hm1, HMM⟩ := Option.bind_eq_some_iff.mp HMM
          obtain ⟨rs1', hm3, HMM⟩ := Option.bind_eq_some_iff.mp HMM
          simp only [Option.some.injEq] at HMM
          subst HMM
          have N1 := am_ hm1
          have N2 := am_ hm3
          clear hm1 hm3
          have hlti : (dn.length : Int) < (row.length : Int) := by have := HLi.out; simp only [List.length_cons] at this; omega
          obtain ⟨gi, capi, eAi, hgi0, hgil, cellsi, hcellsi⟩ := Kd.R_form HRw.out z82_3
          have hR := HRw.out
          have eLi : (dn ++ d :: rs1).length = row.length := by have := HLi.out; simpa using this
          rw [eLi] at eAi
          rw [eAi] at hR
          obtain ⟨ce, hce, hMe, hcce, hfre⟩ := Kd.R_elem hR z85 (dn.length : Int) (by omega) (by omega)
          rw [show (dn ++ d :: rs1).getD (dn.length : Int).toNat z85 = d by simp] at hMe
          obtain rfl := k85_openM hMe
          have hx0 := hcce 0 _ rfl
          have hx1 := hcce 1 _ rfl
          have hx2 := hcce 2 _ rfl
          rw [show (dn.length : Int).toNat * (k85).sz + 0 = dn.length * 3 from by show (dn.length : Int).toNat * 3 + 0 = _; omega] at hx0
          rw [show (dn.length : Int).toNat * (k85).sz + 1 = dn.length * 3 + 1 from by show (dn.length : Int).toNat * 3 + 1 = _; omega] at hx1
          rw [show (dn.length : Int).toNat * (k85).sz + 2 = dn.length * 3 + 2 from by show (dn.length : Int).toNat * 3 + 2 = _; omega] at hx2
          have HRo := am_ hR
          clear hMe hR hcce hfre
          go_wp2_with (go_at_call 102; refine park ?_)
          clear hx0 hx1 hx2
          refine ⟨?_⟩
          refine (HF.out _ d d' (below_alloc HBw.out _) N1.out).mono ?_
          rintro e w2 ⟨rfl, hb⟩
          have HB3 := am_ (below_then (below_alloc HBw.out (Obj.cells #[Value.int IntKind.i64 d.f0, Value.int IntKind.i64 d.f1, Value.int IntKind.i64 d.f2] 85)) (below_alloc HBw.out (Obj.cells #[Value.int IntKind.i64 d.f0, Value.int IntKind.i64 d.f1, Value.int IntKind.i64 d.f2] 85)).size hb)
          have hR3 := Kd.R_below (Kd.R_alloc HRo.out (Obj.cells #[Value.int IntKind.i64 d.f0, Value.int IntKind.i64 d.f1, Value.int IntKind.i64 d.f2] 85)) hb
          have HH3 := am_ (Kd.H_below (Kd.H_alloc HHw.out (Obj.cells #[Value.int IntKind.i64 d.f0, Value.int IntKind.i64 d.f1, Value.int IntKind.i64 d.f2] 85)) hb)
          have BR3 := am_ (blk_below (blk_alloc BRw.out (Obj.cells #[Value.int IntKind.i64 d.f0, Value.int IntKind.i64 d.f1, Value.int IntKind.i64 d.f2] 85)) hb)
          have BP3 := am_ (blk_below (blk_alloc BPw.out (Obj.cells #[Value.int IntKind.i64 d.f0, Value.int IntKind.i64 d.f1, Value.int IntKind.i64 d.f2] 85)) hb)
          have HRn := am_ (HRw.out.1 gi rfl)
          clear HBw HHw BRw BPw HRo HRw hb
          obtain ⟨ce, hce, hMe, hcce, hfre⟩ := Kd.R_elem hR3 z85 (dn.length : Int) (by omega) (by omega)
          rw [show (dn ++ d :: rs1).getD (dn.length : Int).toNat z85 = d by simp] at hMe
          obtain rfl := k85_openM hMe
          have HP := am_ (Kd.R_seg hR3 (dn.length : Int) (by omega) (by omega) (seg := [.int .i64 d'.f0, .int .i64 d'.f1, .int .i64 d'.f2]) (j := 0) hce hcce (show 3 ≤ 3 from by decide) (x' := d') (k85_mkM _ _ _ d') (fun _ hk => hk))
          have hx0 := hcce 0 _ rfl
          have hx1 := hcce 1 _ rfl
          have hx2 := hcce 2 _ rfl
          have hf0 := hfre 0
          have hf1 := hfre 1
          have hf2 := hfre 2
          have e0 : (dn.length : Int).toNat * (k85).sz + 0 = dn.length * 3 := by show (dn.length : Int).toNat * 3 + 0 = _; omega
          have e1 : (dn.length : Int).toNat * (k85).sz + 1 = dn.length * 3 + 1 := by show (dn.length : Int).toNat * 3 + 1 = _; omega
          have e2 : (dn.length : Int).toNat * (k85).sz + 2 = dn.length * 3 + 2 := by show (dn.length : Int).toNat * 3 + 2 = _; omega
          rw [e0] at hx0 hf0
          rw [e1] at hx1 hf1
          rw [e2] at hx2 hf2
          clear e0 e1 e2 hMe hcce hfre hR3
          have HP' := am_ (show Kd.R k85 85 (((w2.setCell ⟨gi, dn.length * 3, none⟩ (.int .i64 d'.f0)).setCell ⟨gi, dn.length * 3 + 1, none⟩ (.int .i64 d'.f1)).setCell ⟨gi, dn.length * 3 + 2, none⟩ (.int .i64 d'.f2)) w.heap.size oki (.slice (some ⟨gi, 0, none⟩) row.length cu) (dn ++ [d'] ++ rs1) ∧ w2.grownBy (((w2.setCell ⟨gi, dn.length * 3, none⟩ (.int .i64 d'.f0)).setCell ⟨gi, dn.length * 3 + 1, none⟩ (.int .i64 d'.f1)).setCell ⟨gi, dn.length * 3 + 2, none⟩ (.int .i64 d'.f2)) (some gi) from by
            have h := HP.out
            rw [show (dn.length : Int).toNat * (k85).sz + 0 = dn.length * 3 from by show (dn.length : Int).toNat * 3 + 0 = _; omega, show (dn ++ d :: rs1).set (dn.length : Int).toNat d' = dn ++ [d'] ++ rs1 from by rw [Int.toNat_natCast, List.set_append_right _ _ (Nat.le_refl _)]; simp] at h
            exact h)
          clear HP
          go_wp2_with fail
          clear hx0 hx1 hx2 hf0 hf1 hf2
          go_roundg rs1.length
          case measure => simp only [List.length_cons] at hjq; omega
          case rel =>
            have hOKn := (HOK.out _ HRn.out).1
            exact ⟨dn ++ [d'], rs1, rs1', by simp, rfl, ⟨by have := HLi.out; simp only [List.length_cons] at this; simp only [List.length_append, List.length_singleton]; omega⟩, N2, ⟨by rw [HRi.out]; simp⟩, ⟨HP'.out.1⟩, ⟨Kd.H_grown HH3.out HP'.out.2 (fun k hk => z82_2)⟩,
              ⟨HB3.out.grown HP'.out.2 HB3.out.size (fun k hk => by injection hk with hk; omega)⟩, ⟨blk_grown BR3.out HP'.out.2 (fun e => z82_1)⟩, ⟨blk_grown BP3.out HP'.out.2 (fun e => z82_1)⟩⟩


end Go.Proofs.Ytefkbmhkhpekjaa.PB

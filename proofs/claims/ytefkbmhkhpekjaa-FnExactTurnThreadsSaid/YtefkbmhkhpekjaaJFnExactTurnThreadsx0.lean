-- Joined by wip/mclaim.py out of YtefkbmhkhpekjaaPBx43, YtefkbmhkhpekjaaPBx101, YtefkbmhkhpekjaaPBx100, YtefkbmhkhpekjaaPBx49, YtefkbmhkhpekjaaPBx54, YtefkbmhkhpekjaaPBx55, YtefkbmhkhpekjaaPBx56, YtefkbmhkhpekjaaPBx15
import Derived.Test.YtefkbmhkhpekjaaPBx0
import Derived.Test.YtefkbmhkhpekjaaJFnExactTurnThreadsx1
import Derived.Test.YtefkbmhkhpekjaaJFnExactTurnThreadsyPBx93
import Derived.Test.YtefkbmhkhpekjaaPBx32
import Derived.Test.YtefkbmhkhpekjaaPBx33
import Derived.Test.YtefkbmhkhpekjaaPBx34
import Derived.Test.YtefkbmhkhpekjaaPBx44
import Derived.Test.YtefkbmhkhpekjaaPBx45
import Derived.Test.YtefkbmhkhpekjaaPBx80
namespace Go.Proofs.Ytefkbmhkhpekjaa.PB
open Go.RowKit Go.Proofs.YtefkbmhkhpekjaaW.PrintWords Go.Proofs.YtefkbmhkhpekjaaW.PrintLast Go.Proofs.YtefkbmhkhpekjaaW.PrintMore
attribute [local go_sem] max2_int min2_int max_two min_two max_three min_three max_four min_four   -- for this text's walks alone
open Go.Proofs.YtefkbmhkhpekjaaMine
set_option linter.unusedVariables false
set_option linter.unusedSimpArgs false

theorem z43_1 {p : Prop} (h : p := by first | rfl | (simp; done) | (simp [*]; done)) : p := h
theorem z43_2 {p : Prop} (h : p := by first | (with_reducible assumption) | assumption) : p := h
theorem z43_3 {p : Prop} (h : p := by first | rfl | (simp [errW_none, errW_some] <;> rfl) | (simp [*, errW_none, errW_some] <;> rfl)) : p := h
theorem z43_4 {p : Prop} (h : p := by repeat (first | (with_reducible first | exact HB.out | apply below_alloc | apply pw_below_drewN | apply below_drew1) | exact HB.out)) : p := h
theorem z43_5 {p : Prop} (h : p := by repeat (first | (with_reducible first | exact HB.out | apply below_alloc | apply pw_below_drewN | apply below_drew1 | refine below_set ?_ GE619.out) | exact HB.out)) : p := h
/-! ### spec_ProgOk: function 43 -/
mutual
def spec_ProgOk.l0 : Nat → Int → Int → Int → List (List (S85)) → Option (Bool)
  | 0, _, _, _, _ => none
  | k + 1, x3, x4, x5, x620000 => if x5 < (x620000.length : Int) then (if 0 ≤ x5 then ((spec_l1Thread.f k (rd_L7 x620000 x5)).bind fun t621 => (if t621 = true then (spec_ProgOk.l1 k (wrap64 (x3 + ((rd_L7 x620000 x5).length : Int))) x4 x5 0 x620000) else (some false))) else (none)) else (if x3 ≤ 14 then (some (decide (x4 ≤ 6))) else (some false))
def spec_ProgOk.l1 : Nat → Int → Int → Int → Int → List (List (S85)) → Option (Bool)
  | 0, _, _, _, _, _ => none
  | k + 1, x3, x4, x5, x6, x620000 => if 0 ≤ x5 then (if x5 < (x620000.length : Int) then (if x6 < ((rd_L7 x620000 x5).length : Int) then (if 0 ≤ x6 then ((spec_l1Reads.f ((rd_T85 (rd_L7 x620000 x5) x6).f0) ((rd_T85 (rd_L7 x620000 x5) x6).f1) ((rd_T85 (rd_L7 x620000 x5) x6).f2)).bind fun t626 => (if t626 = true then (spec_ProgOk.l1 k x3 (wrap64 (x4 + 1)) x5 (wrap64 (x6 + 1)) x620000) else ((spec_l1Writes.f ((rd_T85 (rd_L7 x620000 x5) x6).f0) ((rd_T85 (rd_L7 x620000 x5) x6).f1) ((rd_T85 (rd_L7 x620000 x5) x6).f2)).bind fun t629 => (if t629 = true then (spec_ProgOk.l1 k x3 (wrap64 (x4 + 1)) x5 (wrap64 (x6 + 1)) x620000) else (spec_ProgOk.l1 k x3 x4 x5 (wrap64 (x6 + 1)) x620000))))) else (none)) else (spec_ProgOk.l0 k x3 x4 (wrap64 (x5 + 1)) x620000)) else (none)) else (none)
end
def spec_ProgOk.f (k : Nat) (l0_0 : List (List (S85))) : Option (Bool) := if (l0_0.length : Int) > 3 then (some false) else (spec_ProgOk.l0 k 0 0 0 l0_0)
theorem spec_ProgOk.mono_l : ∀ k, (∀ y0 y1 y2 y3, LeO (spec_ProgOk.l0 k y0 y1 y2 y3) (spec_ProgOk.l0 (k + 1) y0 y1 y2 y3)) ∧ (∀ y0 y1 y2 y3 y4, LeO (spec_ProgOk.l1 k y0 y1 y2 y3 y4) (spec_ProgOk.l1 (k + 1) y0 y1 y2 y3 y4))
  | 0 => ⟨fun _ _ _ _ r h => by simp [spec_ProgOk.l0] at h, fun _ _ _ _ _ r h => by simp [spec_ProgOk.l1] at h⟩
  | k + 1 => by
    obtain ⟨ih0, ih1⟩ := spec_ProgOk.mono_l k
    refine ⟨?_, ?_⟩
    · intro y0 y1 y2 y3
      unfold spec_ProgOk.l0
      repeat' first
      | (with_reducible exact ih0 _ _ _ _)
      | (with_reducible exact ih1 _ _ _ _ _)
      | (with_reducible exact spec_l1Thread.mono _ _)
      | (with_reducible exact LeO.refl _)
      | (with_reducible exact LeO.none _)
      | (with_reducible refine LeO.ite ?_ ?_)
      | (with_reducible refine LeO.bind ?_ (fun _ => ?_))
      | exact ih0 _ _ _ _
      | exact ih1 _ _ _ _ _
      | exact spec_l1Thread.mono _ _
      | exact LeO.none _
      | refine LeO.ite ?_ ?_
      | refine LeO.bind ?_ (fun _ => ?_)
    · intro y0 y1 y2 y3 y4
      unfold spec_ProgOk.l1
      repeat' first
      | (with_reducible exact ih0 _ _ _ _)
      | (with_reducible exact ih1 _ _ _ _ _)
      | (with_reducible exact spec_l1Thread.mono _ _)
      | (with_reducible exact LeO.refl _)
      | (with_reducible exact LeO.none _)
      | (with_reducible refine LeO.ite ?_ ?_)
      | (with_reducible refine LeO.bind ?_ (fun _ => ?_))
      | exact ih0 _ _ _ _
      | exact ih1 _ _ _ _ _
      | exact spec_l1Thread.mono _ _
      | exact LeO.none _
      | refine LeO.ite ?_ ?_
      | refine LeO.bind ?_ (fun _ => ?_)
theorem spec_ProgOk.mono : ∀ a0 k, LeO (spec_ProgOk.f k a0) (spec_ProgOk.f (k + 1) a0) := by
  intro a0 k
  obtain ⟨ih0, ih1⟩ := spec_ProgOk.mono_l k
  unfold spec_ProgOk.f
  repeat' first
      | (with_reducible exact ih0 _ _ _ _)
      | (with_reducible exact ih1 _ _ _ _ _)
      | (with_reducible exact spec_l1Thread.mono _ _)
      | (with_reducible exact LeO.refl _)
      | (with_reducible exact LeO.none _)
      | (with_reducible refine LeO.ite ?_ ?_)
      | (with_reducible refine LeO.bind ?_ (fun _ => ?_))
      | exact ih0 _ _ _ _
      | exact ih1 _ _ _ _ _
      | exact spec_l1Thread.mono _ _
      | exact LeO.none _
      | refine LeO.ite ?_ ?_
      | refine LeO.bind ?_ (fun _ => ?_)
set_option maxHeartbeats 8000000 in
set_option maxRecDepth 100000 in
theorem spec_ProgOk.calls (k : Nat) (A0_0 : Option Addr) (c0_0 : Nat) (l0_0 : List (List (S85))) (r : Bool) (w : World) (hr0_0 : Kd.C (Kd.slice 85 k85) w A0_0 l0_0.length l0_0) (hc0_0 : l0_0.length ≤ c0_0) (h : spec_ProgOk.f k l0_0 = some r) :
  Calls Try.prog 43 #[.agg #[.slice A0_0 l0_0.length c0_0]] w fun e w' => e = .returned (.bool r) ∧ Below w.heap.size w w' := by
 have hu35 := Try.underlying35
 have hu85 := Try.underlying85
 have HR0_0 := am_ hr0_0
 have HC0_0 := am_ hc0_0
 clear hr0_0 hc0_0
 have HB := am_ (Below.refl w.heap.size w)
 have H : (if (l0_0.length : Int) > 3 then (some false) else (spec_ProgOk.l0 k 0 0 0 l0_0)) = some r := h
 clear h
 by_cases c2 : (l0_0.length : Int) > 3
 ·rw [if_pos c2] at H
  have c2b0 : decide (3 < (l0_0.length : Int)) = true := decide_eq_true c2
  have c2b1 : decide (3 < l0_0.length) = true := decide_eq_true (by omega)
  clear c2
  obtain rfl := Option.some.inj H
  go_enter Try.func43, Try.ntmps43
  go_wp2_with (first | ((with_reducible refine gate_dst (N := 1) rfl ?_); refine box_event ?hg (N := 1) ?hd (cs := #[.slice A0_0 l0_0.length c0_0]) (t := 35) ?hr ?_; (case hd => rfl); (case hg => rfl); (case hr => first | (go_simp; done) | (go_simp; rfl)); intro gb619 hg w3 hbox hb; have n0_ := am_ (below_step z43_4 hb); have n1_ := am_ (hbox); have n2_ := am_ (by rw [hg]; exact (below_size z43_4) : w.heap.size ≤ gb619); have n3_ := am_ (by rw [hg]; exact (below_size z43_4) : w.heap.size ≤ gb619); clear HB; have HB := n0_; have BK619 := n1_; have GW619 := n2_; have GE619 := n3_; clear n0_ n1_ n2_ n3_; clear hb hbox hg; have hcz4_0 : w3.cell? ⟨gb619, 0, none⟩ = some (.slice A0_0 l0_0.length c0_0) := (blk_cell BK619.out 0).trans rfl; have hfz4_0 := blk_frozen BK619.out 0))
  go_ret
  exact ⟨z43_3, z43_5⟩
 ·rw [if_neg c2] at H
  have c2b0 : decide (3 < (l0_0.length : Int)) = false := decide_eq_false c2
  have c2b1 : decide (3 < l0_0.length) = false := decide_eq_false (by omega)
  clear c2
  have H' := am_ H
  clear H
  go_enter Try.func43, Try.ntmps43
  go_wp2_with (first | ((with_reducible refine gate_dst (N := 1) rfl ?_); refine box_event ?hg (N := 1) ?hd (cs := #[.slice A0_0 l0_0.length c0_0]) (t := 35) ?hr ?_; (case hd => rfl); (case hg => rfl); (case hr => first | (go_simp; done) | (go_simp; rfl)); intro gb619 hg w5 hbox hb; have n0_ := am_ (below_step z43_4 hb); have n1_ := am_ (hbox); have n2_ := am_ (by rw [hg]; exact (below_size z43_4) : w.heap.size ≤ gb619); have n3_ := am_ (by rw [hg]; exact (below_size z43_4) : w.heap.size ≤ gb619); clear HB; have HB := n0_; have BK619 := n1_; have GW619 := n2_; have GE619 := n3_; clear n0_ n1_ n2_ n3_; clear hb hbox hg; have hcz6_0 : w5.cell? ⟨gb619, 0, none⟩ = some (.slice A0_0 l0_0.length c0_0) := (blk_cell BK619.out 0).trans rfl; have hfz6_0 := blk_frozen BK619.out 0))
  go_loopg [3, 4, 5] k (fun kq v3 v4 v5 w' => ∃ (x3_1 : Int) (x4_1 : Int) (x5_1 : Int), v3 = .int .i64 x3_1 ∧ v4 = .int .i64 x4_1 ∧ v5 = .int .i64 x5_1 ∧ Aside0 (spec_ProgOk.l0 kq x3_1 x4_1 x5_1 l0_0 = some r) ∧ Aside0 (kq ≤ k) ∧ Aside0 (w'.heap[gb619]? = some (.cells #[(.slice A0_0 l0_0.length c0_0)] 35 (0, 0))) ∧ Aside0 (Below w.heap.size w w'))
  case atStart => exact ⟨(0), (0), (0), z43_1, z43_1, z43_1, H', ⟨Nat.le_refl _⟩, ⟨bu BK619.out⟩, ⟨z43_5⟩⟩
  case round =>
   clear H'
   obtain ⟨x3_1, x4_1, x5_1, rfl, rfl, rfl, HA, HK1, BK619, HB⟩ := hrel
   cases gk with
   | zero => exact absurd HA.out (by simp [spec_ProgOk.l0])
   | succ k1 =>
    have H := HA.out
    clear HA
    simp only [spec_ProgOk.l0] at H
    by_cases c7 : x5_1 < (l0_0.length : Int)
    ·rw [if_pos c7] at H
     have c7b0 : decide (x5_1 < (l0_0.length : Int)) = true := decide_eq_true c7
     clear c7
     by_cases c8 : 0 ≤ x5_1
     ·rw [if_pos c8] at H
      have c8b0 : decide (0 ≤ x5_1) = true := decide_eq_true c8
      clear c8
      replace H := Option.bind_eq_some_iff.mp H
      obtain ⟨t621, A90, H⟩ := H
      replace H : (if t621 = true then (spec_ProgOk.l1 k1 (wrap64 (x3_1 + ((rd_L7 l0_0 x5_1).length : Int))) x4_1 x5_1 0 l0_0) else (some false)) = some r := H
      have A9 := am_ A90
      clear A90
      by_cases c10 : t621 = true
      ·subst c10
       have H1 : (spec_ProgOk.l1 k1 (wrap64 (x3_1 + ((rd_L7 l0_0 x5_1).length : Int))) x4_1 x5_1 0 l0_0) = some r := by rw [if_pos rfl] at H; exact H
       clear H
       have H := H1
       clear H1
       have H' := am_ H
       clear H
       have hcz11_0 : wr.cell? ⟨gb619, 0, none⟩ = some (.slice A0_0 l0_0.length c0_0) := (blk_cell BK619.out 0).trans rfl
       have hfz11_0 := blk_frozen BK619.out 0
       have p620 : 0 ≤ (x5_1 : Int) := of_decide_eq_true z43_2
       have q620 : x5_1 < (l0_0.length : Int) := of_decide_eq_true z43_2
       obtain ⟨ad620, A620_0, c620_0, e620, hx620_0, hl620_0, hi620_0⟩ := at_L7 HR0_0.out x5_1 p620 q620
       cases e620
       replace hx620_0 := (HB.out.cell (World.block_lt_of_cell? w _ hx620_0)).trans hx620_0
       have HR620_0 := am_ hi620_0
       have HC620_0 := am_ hl620_0
       clear hi620_0 hl620_0
       replace p620 := eq_true p620
       replace q620 := eq_true q620
       go_wp2_with (first | ((with_reducible refine gate_callee (f := 93) rfl ?_); refine goesL_ (some 23) rfl rfl Try.func93 (by kernel_rfl) rfl #[.slice A620_0 (rd_L7 l0_0 x5_1).length c620_0] rfl (by (try simp only [List.map_toArray, List.map_cons, List.map_nil]); first | done | rfl | (simp only [List.length_drop, List.length_take]; rfl)) ?_; (with_reducible refine (spec_l1Thread.calls k1 _ _ (rd_L7 l0_0 x5_1) true _ ?side1 ?side2 A9.out).mono ?_); (case side1 => repeat (first | exact (Kd.C_below HR620_0.out HB.out) | (with_reducible refine Kd.C_alloc ?_ _) | (with_reducible refine Kd.C_drewN ?_ _) | (with_reducible refine Kd.C_drew ?_))); (case side2 => exact HC620_0.out); rintro e w12 ⟨rfl, hb⟩; refine ⟨_, rfl, ?_⟩; have n0_ := am_ (blk_below (bu BK619.out) hb); have n1_ := am_ (below_step z43_5 hb); clear BK619 HB; have BK619 := n0_; have HB := n1_; clear n0_ n1_; (try clear hb); (try clear hb2); (try clear hk); (try clear hi); have hcz13_0 : w12.cell? ⟨gb619, 0, none⟩ = some (.slice (some ad620) l0_0.length c0_0) := (blk_cell BK619.out 0).trans rfl; have hfz13_0 := blk_frozen BK619.out 0; have p622 : 0 ≤ (x5_1 : Int) := of_decide_eq_true z43_2; have q622 : x5_1 < (l0_0.length : Int) := of_decide_eq_true z43_2; obtain ⟨ad622, A622_0, c622_0, e622, hx622_0, hl622_0, hi622_0⟩ := at_L7 HR0_0.out x5_1 p622 q622; obtain rfl : ad620 = ad622 := (by injection e622); replace hx622_0 := (HB.out.cell (World.block_lt_of_cell? w _ hx622_0)).trans hx622_0; have HR622_0 := am_ hi622_0; have HC622_0 := am_ hl622_0; clear hi622_0 hl622_0; replace p622 := eq_true p622; replace q622 := eq_true q622))
       go_loopg [4, 6] k1 (fun kq v4 v6 w' => ∃ (x4_2 : Int) (x6_2 : Int), v4 = .int .i64 x4_2 ∧ v6 = .int .i64 x6_2 ∧ Aside0 (spec_ProgOk.l1 kq (wrap64 (x3_1 + ((rd_L7 l0_0 x5_1).length : Int))) x4_2 x5_1 x6_2 l0_0 = some r) ∧ Aside0 (kq ≤ k1) ∧ Aside0 (w'.heap[gb619]? = some (.cells #[(.slice (some ad620) l0_0.length c0_0)] 35 (0, 0))) ∧ Aside0 (Below w.heap.size w w'))
       case atStart => exact ⟨(x4_1), (0), z43_1, z43_1, H', ⟨Nat.le_refl _⟩, ⟨bu BK619.out⟩, ⟨z43_5⟩⟩
       case round =>
        clear H'
        obtain ⟨x4_2, x6_2, rfl, rfl, HA, HK2, BK619, HB⟩ := hrel
        cases gk with
        | zero => exact absurd HA.out (by simp [spec_ProgOk.l1])
        | succ k2 =>
         have H := HA.out
         clear HA
         simp only [spec_ProgOk.l1] at H
         by_cases c14 : 0 ≤ x5_1
         ·rw [if_pos c14] at H
          have c14b0 : decide (0 ≤ x5_1) = true := decide_eq_true c14
          clear c14
          by_cases c15 : x5_1 < (l0_0.length : Int)
          ·rw [if_pos c15] at H
           have c15b0 : decide (x5_1 < (l0_0.length : Int)) = true := decide_eq_true c15
           clear c15
           by_cases c16 : x6_2 < ((rd_L7 l0_0 x5_1).length : Int)
           ·rw [if_pos c16] at H
            have c16b0 : decide (x6_2 < ((rd_L7 l0_0 x5_1).length : Int)) = true := decide_eq_true c16
            clear c16
            by_cases c17 : 0 ≤ x6_2
            ·rw [if_pos c17] at H
             have c17b0 : decide (0 ≤ x6_2) = true := decide_eq_true c17
             clear c17
             replace H := Option.bind_eq_some_iff.mp H
             obtain ⟨t626, A180, H⟩ := H
             replace H : (if t626 = true then (spec_ProgOk.l1 k2 (wrap64 (x3_1 + ((rd_L7 l0_0 x5_1).length : Int))) (wrap64 (x4_2 + 1)) x5_1 (wrap64 (x6_2 + 1)) l0_0) else ((spec_l1Writes.f ((rd_T85 (rd_L7 l0_0 x5_1) x6_2).f0) ((rd_T85 (rd_L7 l0_0 x5_1) x6_2).f1) ((rd_T85 (rd_L7 l0_0 x5_1) x6_2).f2)).bind fun t629 => (if t629 = true then (spec_ProgOk.l1 k2 (wrap64 (x3_1 + ((rd_L7 l0_0 x5_1).length : Int))) (wrap64 (x4_2 + 1)) x5_1 (wrap64 (x6_2 + 1)) l0_0) else (spec_ProgOk.l1 k2 (wrap64 (x3_1 + ((rd_L7 l0_0 x5_1).length : Int))) x4_2 x5_1 (wrap64 (x6_2 + 1)) l0_0)))) = some r := H
             have A18 := am_ A180
             clear A180
             by_cases c19 : t626 = true
             ·subst c19
              have H1 : (spec_ProgOk.l1 k2 (wrap64 (x3_1 + ((rd_L7 l0_0 x5_1).length : Int))) (wrap64 (x4_2 + 1)) x5_1 (wrap64 (x6_2 + 1)) l0_0) = some r := by rw [if_pos rfl] at H; exact H
              clear H
              have H := H1
              clear H1
              have H' := am_ H
              clear H
              have hcz20_0 : wr.cell? ⟨gb619, 0, none⟩ = some (.slice (some ad620) l0_0.length c0_0) := (blk_cell BK619.out 0).trans rfl
              have hfz20_0 := blk_frozen BK619.out 0
              have p623 : 0 ≤ (x5_1 : Int) := of_decide_eq_true z43_2
              have q623 : x5_1 < (l0_0.length : Int) := of_decide_eq_true z43_2
              obtain ⟨ad623, A623_0, c623_0, e623, hx623_0, hl623_0, hi623_0⟩ := at_L7 HR0_0.out x5_1 p623 q623
              obtain rfl : ad620 = ad623 := (by injection e623)
              replace hx623_0 := (HB.out.cell (World.block_lt_of_cell? w _ hx623_0)).trans hx623_0
              have HR623_0 := am_ hi623_0
              have HC623_0 := am_ hl623_0
              clear hi623_0 hl623_0
              replace p623 := eq_true p623
              replace q623 := eq_true q623
              have p624 : 0 ≤ (x5_1 : Int) := of_decide_eq_true z43_2
              have q624 : x5_1 < (l0_0.length : Int) := of_decide_eq_true z43_2
              obtain ⟨ad624, A624_0, c624_0, e624, hx624_0, hl624_0, hi624_0⟩ := at_L7 HR0_0.out x5_1 p624 q624
              obtain rfl : ad620 = ad624 := (by injection e624)
              replace hx624_0 := (HB.out.cell (World.block_lt_of_cell? w _ hx624_0)).trans hx624_0
              have HR624_0 := am_ hi624_0
              have HC624_0 := am_ hl624_0
              clear hi624_0 hl624_0
              replace p624 := eq_true p624
              replace q624 := eq_true q624
              have ea_ := Option.some.inj (hx623_0.symm.trans hx624_0)
              injection ea_ with ea_ en_ ec_
              subst ea_
              subst ec_
              clear en_
              have p625 : 0 ≤ (x6_2 : Int) := of_decide_eq_true z43_2
              have q625 : x6_2 < ((rd_L7 l0_0 x5_1).length : Int) := of_decide_eq_true z43_2
              obtain ⟨ad625, e625, hx625_0, hx625_1, hx625_2⟩ := at_T85 HR624_0.out x6_2 p625 q625
              cases e625
              replace hx625_0 := (HB.out.cell (World.block_lt_of_cell? w _ hx625_0)).trans hx625_0
              replace hx625_1 := (HB.out.cell (World.block_lt_of_cell? w _ hx625_1)).trans hx625_1
              replace hx625_2 := (HB.out.cell (World.block_lt_of_cell? w _ hx625_2)).trans hx625_2
              replace p625 := eq_true p625
              replace q625 := eq_true q625
              go_wp2_with (first | ((with_reducible refine gate_callee (f := 87) rfl ?_); refine goesL_ (some 51) rfl rfl Try.func87 (by kernel_rfl) rfl #[.agg #[.int .i64 ((rd_T85 (rd_L7 l0_0 x5_1) x6_2).f0), .int .i64 ((rd_T85 (rd_L7 l0_0 x5_1) x6_2).f1), .int .i64 ((rd_T85 (rd_L7 l0_0 x5_1) x6_2).f2)]] rfl (by (try simp only [List.map_toArray, List.map_cons, List.map_nil]); first | done | rfl | (simp only [List.length_drop, List.length_take]; rfl)) ?_; (with_reducible refine (spec_l1Reads.calls ((rd_T85 (rd_L7 l0_0 x5_1) x6_2).f0) ((rd_T85 (rd_L7 l0_0 x5_1) x6_2).f1) ((rd_T85 (rd_L7 l0_0 x5_1) x6_2).f2) true _ A18.out).mono ?_); rintro e w21 ⟨rfl, hb⟩; refine ⟨_, rfl, ?_⟩; have n0_ := am_ (blk_below (bu BK619.out) hb); have n1_ := am_ (below_step z43_5 hb); clear BK619 HB; have BK619 := n0_; have HB := n1_; clear n0_ n1_; (try clear hb); (try clear hb2); (try clear hk); (try clear hi)))
              go_roundg k2
              case measure => have := HK1.out; have := HK2.out; omega
              case rel => exact ⟨(wrap64 (x4_2 + 1)), (wrap64 (x6_2 + 1)), z43_1, z43_1, H', ⟨by have := HK1.out; have := HK2.out; omega⟩, ⟨bu BK619.out⟩, ⟨z43_5⟩⟩
             ·replace c19 := Bool.eq_false_iff.mpr c19
              subst c19
              have H1 : ((spec_l1Writes.f ((rd_T85 (rd_L7 l0_0 x5_1) x6_2).f0) ((rd_T85 (rd_L7 l0_0 x5_1) x6_2).f1) ((rd_T85 (rd_L7 l0_0 x5_1) x6_2).f2)).bind fun t629 => (if t629 = true then (spec_ProgOk.l1 k2 (wrap64 (x3_1 + ((rd_L7 l0_0 x5_1).length : Int))) (wrap64 (x4_2 + 1)) x5_1 (wrap64 (x6_2 + 1)) l0_0) else (spec_ProgOk.l1 k2 (wrap64 (x3_1 + ((rd_L7 l0_0 x5_1).length : Int))) x4_2 x5_1 (wrap64 (x6_2 + 1)) l0_0))) = some r := by rw [if_neg (show ¬ (false = true) by decide)] at H; exact H
              clear H
              have H := H1
              clear H1
              replace H := Option.bind_eq_some_iff.mp H
              obtain ⟨t629, A220, H⟩ := H
              replace H : (if t629 = true then (spec_ProgOk.l1 k2 (wrap64 (x3_1 + ((rd_L7 l0_0 x5_1).length : Int))) (wrap64 (x4_2 + 1)) x5_1 (wrap64 (x6_2 + 1)) l0_0) else (spec_ProgOk.l1 k2 (wrap64 (x3_1 + ((rd_L7 l0_0 x5_1).length : Int))) x4_2 x5_1 (wrap64 (x6_2 + 1)) l0_0)) = some r := H
              have A22 := am_ A220
              clear A220
              by_cases c23 : t629 = true
              ·subst c23
               have H1 : (spec_ProgOk.l1 k2 (wrap64 (x3_1 + ((rd_L7 l0_0 x5_1).length : Int))) (wrap64 (x4_2 + 1)) x5_1 (wrap64 (x6_2 + 1)) l0_0) = some r := by rw [if_pos rfl] at H; exact H
               clear H
               have H := H1
               clear H1
               have H' := am_ H
               clear H
               have hcz24_0 : wr.cell? ⟨gb619, 0, none⟩ = some (.slice (some ad620) l0_0.length c0_0) := (blk_cell BK619.out 0).trans rfl
               have hfz24_0 := blk_frozen BK619.out 0
               have p623 : 0 ≤ (x5_1 : Int) := of_decide_eq_true z43_2
               have q623 : x5_1 < (l0_0.length : Int) := of_decide_eq_true z43_2
               obtain ⟨ad623, A623_0, c623_0, e623, hx623_0, hl623_0, hi623_0⟩ := at_L7 HR0_0.out x5_1 p623 q623
               obtain rfl : ad620 = ad623 := (by injection e623)
               replace hx623_0 := (HB.out.cell (World.block_lt_of_cell? w _ hx623_0)).trans hx623_0
               have HR623_0 := am_ hi623_0
               have HC623_0 := am_ hl623_0
               clear hi623_0 hl623_0
               replace p623 := eq_true p623
               replace q623 := eq_true q623
               have p624 : 0 ≤ (x5_1 : Int) := of_decide_eq_true z43_2
               have q624 : x5_1 < (l0_0.length : Int) := of_decide_eq_true z43_2
               obtain ⟨ad624, A624_0, c624_0, e624, hx624_0, hl624_0, hi624_0⟩ := at_L7 HR0_0.out x5_1 p624 q624
               obtain rfl : ad620 = ad624 := (by injection e624)
               replace hx624_0 := (HB.out.cell (World.block_lt_of_cell? w _ hx624_0)).trans hx624_0
               have HR624_0 := am_ hi624_0
               have HC624_0 := am_ hl624_0
               clear hi624_0 hl624_0
               replace p624 := eq_true p624
               replace q624 := eq_true q624
               have ea_ := Option.some.inj (hx623_0.symm.trans hx624_0)
               injection ea_ with ea_ en_ ec_
               subst ea_
               subst ec_
               clear en_
               have p625 : 0 ≤ (x6_2 : Int) := of_decide_eq_true z43_2
               have q625 : x6_2 < ((rd_L7 l0_0 x5_1).length : Int) := of_decide_eq_true z43_2
               obtain ⟨ad625, e625, hx625_0, hx625_1, hx625_2⟩ := at_T85 HR624_0.out x6_2 p625 q625
               cases e625
               replace hx625_0 := (HB.out.cell (World.block_lt_of_cell? w _ hx625_0)).trans hx625_0
               replace hx625_1 := (HB.out.cell (World.block_lt_of_cell? w _ hx625_1)).trans hx625_1
               replace hx625_2 := (HB.out.cell (World.block_lt_of_cell? w _ hx625_2)).trans hx625_2
               replace p625 := eq_true p625
               replace q625 := eq_true q625
               go_wp2_with (first | ((with_reducible refine gate_callee (f := 87) rfl ?_); refine goesL_ (some 51) rfl rfl Try.func87 (by kernel_rfl) rfl #[.agg #[.int .i64 ((rd_T85 (rd_L7 l0_0 x5_1) x6_2).f0), .int .i64 ((rd_T85 (rd_L7 l0_0 x5_1) x6_2).f1), .int .i64 ((rd_T85 (rd_L7 l0_0 x5_1) x6_2).f2)]] rfl (by (try simp only [List.map_toArray, List.map_cons, List.map_nil]); first | done | rfl | (simp only [List.length_drop, List.length_take]; rfl)) ?_; (with_reducible refine (spec_l1Reads.calls ((rd_T85 (rd_L7 l0_0 x5_1) x6_2).f0) ((rd_T85 (rd_L7 l0_0 x5_1) x6_2).f1) ((rd_T85 (rd_L7 l0_0 x5_1) x6_2).f2) false _ A18.out).mono ?_); rintro e w25 ⟨rfl, hb⟩; refine ⟨_, rfl, ?_⟩; have n0_ := am_ (blk_below (bu BK619.out) hb); have n1_ := am_ (below_step z43_5 hb); clear BK619 HB; have BK619 := n0_; have HB := n1_; clear n0_ n1_; (try clear hb); (try clear hb2); (try clear hk); (try clear hi); have hcz26_0 : w25.cell? ⟨gb619, 0, none⟩ = some (.slice (some ad620) l0_0.length c0_0) := (blk_cell BK619.out 0).trans rfl; have hfz26_0 := blk_frozen BK619.out 0; have p627 : 0 ≤ (x5_1 : Int) := of_decide_eq_true z43_2; have q627 : x5_1 < (l0_0.length : Int) := of_decide_eq_true z43_2; obtain ⟨ad627, A627_0, c627_0, e627, hx627_0, hl627_0, hi627_0⟩ := at_L7 HR0_0.out x5_1 p627 q627; obtain rfl : ad620 = ad627 := (by injection e627); replace hx627_0 := (HB.out.cell (World.block_lt_of_cell? w _ hx627_0)).trans hx627_0; have HR627_0 := am_ hi627_0; have HC627_0 := am_ hl627_0; clear hi627_0 hl627_0; replace p627 := eq_true p627; replace q627 := eq_true q627; have p628 : 0 ≤ (x6_2 : Int) := of_decide_eq_true z43_2; have q628 : x6_2 < ((rd_L7 l0_0 x5_1).length : Int) := of_decide_eq_true z43_2; obtain ⟨ad628, e628, hx628_0, hx628_1, hx628_2⟩ := at_T85 HR627_0.out x6_2 p628 q628; cases e628; replace hx628_0 := (HB.out.cell (World.block_lt_of_cell? w _ hx628_0)).trans hx628_0; replace hx628_1 := (HB.out.cell (World.block_lt_of_cell? w _ hx628_1)).trans hx628_1; replace hx628_2 := (HB.out.cell (World.block_lt_of_cell? w _ hx628_2)).trans hx628_2; replace p628 := eq_true p628; replace q628 := eq_true q628) | (go_at_call 88; (with_reducible refine (spec_l1Writes.calls ((rd_T85 (rd_L7 l0_0 x5_1) x6_2).f0) ((rd_T85 (rd_L7 l0_0 x5_1) x6_2).f1) ((rd_T85 (rd_L7 l0_0 x5_1) x6_2).f2) true _ A22.out).mono ?_); rintro e w27 ⟨rfl, hb⟩; have n0_ := am_ (blk_below (bu BK619.out) hb); have n1_ := am_ (below_step z43_5 hb); clear BK619 HB; have BK619 := n0_; have HB := n1_; clear n0_ n1_; (try clear hb); (try clear hb2); (try clear hk); (try clear hi)))
               go_roundg k2
               case measure => have := HK1.out; have := HK2.out; omega
               case rel => exact ⟨(wrap64 (x4_2 + 1)), (wrap64 (x6_2 + 1)), z43_1, z43_1, H', ⟨by have := HK1.out; have := HK2.out; omega⟩, ⟨bu BK619.out⟩, ⟨z43_5⟩⟩
              ·replace c23 := Bool.eq_false_iff.mpr c23
               subst c23
               have H1 : (spec_ProgOk.l1 k2 (wrap64 (x3_1 + ((rd_L7 l0_0 x5_1).length : Int))) x4_2 x5_1 (wrap64 (x6_2 + 1)) l0_0) = some r := by rw [if_neg (show ¬ (false = true) by decide)] at H; exact H
               clear H
               have H := H1
               clear H1
               have H' := am_ H
               clear H
               have hcz28_0 : wr.cell? ⟨gb619, 0, none⟩ = some (.slice (some ad620) l0_0.length c0_0) := (blk_cell BK619.out 0).trans rfl
               have hfz28_0 := blk_frozen BK619.out 0
               have p623 : 0 ≤ (x5_1 : Int) := of_decide_eq_true z43_2
               have q623 : x5_1 < (l0_0.length : Int) := of_decide_eq_true z43_2
               obtain ⟨ad623, A623_0, c623_0, e623, hx623_0, hl623_0, hi623_0⟩ := at_L7 HR0_0.out x5_1 p623 q623
               obtain rfl : ad620 = ad623 := (by injection e623)
               replace hx623_0 := (HB.out.cell (World.block_lt_of_cell? w _ hx623_0)).trans hx623_0
               have HR623_0 := am_ hi623_0
               have HC623_0 := am_ hl623_0
               clear hi623_0 hl623_0
               replace p623 := eq_true p623
               replace q623 := eq_true q623
               have p624 : 0 ≤ (x5_1 : Int) := of_decide_eq_true z43_2
               have q624 : x5_1 < (l0_0.length : Int) := of_decide_eq_true z43_2
               obtain ⟨ad624, A624_0, c624_0, e624, hx624_0, hl624_0, hi624_0⟩ := at_L7 HR0_0.out x5_1 p624 q624
               obtain rfl : ad620 = ad624 := (by injection e624)
               replace hx624_0 := (HB.out.cell (World.block_lt_of_cell? w _ hx624_0)).trans hx624_0
               have HR624_0 := am_ hi624_0
               have HC624_0 := am_ hl624_0
               clear hi624_0 hl624_0
               replace p624 := eq_true p624
               replace q624 := eq_true q624
               have ea_ := Option.some.inj (hx623_0.symm.trans hx624_0)
               injection ea_ with ea_ en_ ec_
               subst ea_
               subst ec_
               clear en_
               have p625 : 0 ≤ (x6_2 : Int) := of_decide_eq_true z43_2
               have q625 : x6_2 < ((rd_L7 l0_0 x5_1).length : Int) := of_decide_eq_true z43_2
               obtain ⟨ad625, e625, hx625_0, hx625_1, hx625_2⟩ := at_T85 HR624_0.out x6_2 p625 q625
               cases e625
               replace hx625_0 := (HB.out.cell (World.block_lt_of_cell? w _ hx625_0)).trans hx625_0
               replace hx625_1 := (HB.out.cell (World.block_lt_of_cell? w _ hx625_1)).trans hx625_1
               replace hx625_2 := (HB.out.cell (World.block_lt_of_cell? w _ hx625_2)).trans hx625_2
               replace p625 := eq_true p625
               replace q625 := eq_true q625
               go_wp2_with (first | ((with_reducible refine gate_callee (f := 87) rfl ?_); refine goesL_ (some 51) rfl rfl Try.func87 (by kernel_rfl) rfl #[.agg #[.int .i64 ((rd_T85 (rd_L7 l0_0 x5_1) x6_2).f0), .int .i64 ((rd_T85 (rd_L7 l0_0 x5_1) x6_2).f1), .int .i64 ((rd_T85 (rd_L7 l0_0 x5_1) x6_2).f2)]] rfl (by (try simp only [List.map_toArray, List.map_cons, List.map_nil]); first | done | rfl | (simp only [List.length_drop, List.length_take]; rfl)) ?_; (with_reducible refine (spec_l1Reads.calls ((rd_T85 (rd_L7 l0_0 x5_1) x6_2).f0) ((rd_T85 (rd_L7 l0_0 x5_1) x6_2).f1) ((rd_T85 (rd_L7 l0_0 x5_1) x6_2).f2) false _ A18.out).mono ?_); rintro e w29 ⟨rfl, hb⟩; refine ⟨_, rfl, ?_⟩; have n0_ := am_ (blk_below (bu BK619.out) hb); have n1_ := am_ (below_step z43_5 hb); clear BK619 HB; have BK619 := n0_; have HB := n1_; clear n0_ n1_; (try clear hb); (try clear hb2); (try clear hk); (try clear hi); have hcz30_0 : w29.cell? ⟨gb619, 0, none⟩ = some (.slice (some ad620) l0_0.length c0_0) := (blk_cell BK619.out 0).trans rfl; have hfz30_0 := blk_frozen BK619.out 0; have p627 : 0 ≤ (x5_1 : Int) := of_decide_eq_true z43_2; have q627 : x5_1 < (l0_0.length : Int) := of_decide_eq_true z43_2; obtain ⟨ad627, A627_0, c627_0, e627, hx627_0, hl627_0, hi627_0⟩ := at_L7 HR0_0.out x5_1 p627 q627; obtain rfl : ad620 = ad627 := (by injection e627); replace hx627_0 := (HB.out.cell (World.block_lt_of_cell? w _ hx627_0)).trans hx627_0; have HR627_0 := am_ hi627_0; have HC627_0 := am_ hl627_0; clear hi627_0 hl627_0; replace p627 := eq_true p627; replace q627 := eq_true q627; have p628 : 0 ≤ (x6_2 : Int) := of_decide_eq_true z43_2; have q628 : x6_2 < ((rd_L7 l0_0 x5_1).length : Int) := of_decide_eq_true z43_2; obtain ⟨ad628, e628, hx628_0, hx628_1, hx628_2⟩ := at_T85 HR627_0.out x6_2 p628 q628; cases e628; replace hx628_0 := (HB.out.cell (World.block_lt_of_cell? w _ hx628_0)).trans hx628_0; replace hx628_1 := (HB.out.cell (World.block_lt_of_cell? w _ hx628_1)).trans hx628_1; replace hx628_2 := (HB.out.cell (World.block_lt_of_cell? w _ hx628_2)).trans hx628_2; replace p628 := eq_true p628; replace q628 := eq_true q628) | (go_at_call 88; (with_reducible refine (spec_l1Writes.calls ((rd_T85 (rd_L7 l0_0 x5_1) x6_2).f0) ((rd_T85 (rd_L7 l0_0 x5_1) x6_2).f1) ((rd_T85 (rd_L7 l0_0 x5_1) x6_2).f2) false _ A22.out).mono ?_); rintro e w31 ⟨rfl, hb⟩; have n0_ := am_ (blk_below (bu BK619.out) hb); have n1_ := am_ (below_step z43_5 hb); clear BK619 HB; have BK619 := n0_; have HB := n1_; clear n0_ n1_; (try clear hb); (try clear hb2); (try clear hk); (try clear hi)))
               go_roundg k2
               case measure => have := HK1.out; have := HK2.out; omega
               case rel => exact ⟨(x4_2), (wrap64 (x6_2 + 1)), z43_1, z43_1, H', ⟨by have := HK1.out; have := HK2.out; omega⟩, ⟨bu BK619.out⟩, ⟨z43_5⟩⟩
            ·rw [if_neg c17] at H
             exact absurd H (by simp)
           ·rw [if_neg c16] at H
            have c16b0 : decide (x6_2 < ((rd_L7 l0_0 x5_1).length : Int)) = false := decide_eq_false c16
            clear c16
            have H' := am_ H
            clear H
            have hcz32_0 : wr.cell? ⟨gb619, 0, none⟩ = some (.slice (some ad620) l0_0.length c0_0) := (blk_cell BK619.out 0).trans rfl
            have hfz32_0 := blk_frozen BK619.out 0
            have p623 : 0 ≤ (x5_1 : Int) := of_decide_eq_true z43_2
            have q623 : x5_1 < (l0_0.length : Int) := of_decide_eq_true z43_2
            obtain ⟨ad623, A623_0, c623_0, e623, hx623_0, hl623_0, hi623_0⟩ := at_L7 HR0_0.out x5_1 p623 q623
            obtain rfl : ad620 = ad623 := (by injection e623)
            replace hx623_0 := (HB.out.cell (World.block_lt_of_cell? w _ hx623_0)).trans hx623_0
            have HR623_0 := am_ hi623_0
            have HC623_0 := am_ hl623_0
            clear hi623_0 hl623_0
            replace p623 := eq_true p623
            replace q623 := eq_true q623
            go_wp2
            go_roundg k2
            case measure => have := HK1.out; have := HK2.out; omega
            case rel => exact ⟨((wrap64 (x3_1 + ((rd_L7 l0_0 x5_1).length : Int)))), (x4_2), (wrap64 (x5_1 + 1)), z43_1, z43_1, z43_1, H', ⟨by have := HK1.out; have := HK2.out; omega⟩, ⟨bu BK619.out⟩, ⟨z43_5⟩⟩
          ·rw [if_neg c15] at H
           exact absurd H (by simp)
         ·rw [if_neg c14] at H
          exact absurd H (by simp)
      ·replace c10 := Bool.eq_false_iff.mpr c10
       subst c10
       have H1 : (some false) = some r := by rw [if_neg (show ¬ (false = true) by decide)] at H; exact H
       clear H
       have H := H1
       clear H1
       obtain rfl := Option.some.inj H
       have hcz33_0 : wr.cell? ⟨gb619, 0, none⟩ = some (.slice A0_0 l0_0.length c0_0) := (blk_cell BK619.out 0).trans rfl
       have hfz33_0 := blk_frozen BK619.out 0
       have p620 : 0 ≤ (x5_1 : Int) := of_decide_eq_true z43_2
       have q620 : x5_1 < (l0_0.length : Int) := of_decide_eq_true z43_2
       obtain ⟨ad620, A620_0, c620_0, e620, hx620_0, hl620_0, hi620_0⟩ := at_L7 HR0_0.out x5_1 p620 q620
       cases e620
       replace hx620_0 := (HB.out.cell (World.block_lt_of_cell? w _ hx620_0)).trans hx620_0
       have HR620_0 := am_ hi620_0
       have HC620_0 := am_ hl620_0
       clear hi620_0 hl620_0
       replace p620 := eq_true p620
       replace q620 := eq_true q620
       go_wp2_with (first | ((with_reducible refine gate_callee (f := 93) rfl ?_); refine goesL_ (some 23) rfl rfl Try.func93 (by kernel_rfl) rfl #[.slice A620_0 (rd_L7 l0_0 x5_1).length c620_0] rfl (by (try simp only [List.map_toArray, List.map_cons, List.map_nil]); first | done | rfl | (simp only [List.length_drop, List.length_take]; rfl)) ?_; (with_reducible refine (spec_l1Thread.calls k1 _ _ (rd_L7 l0_0 x5_1) false _ ?side1 ?side2 A9.out).mono ?_); (case side1 => repeat (first | exact (Kd.C_below HR620_0.out HB.out) | (with_reducible refine Kd.C_alloc ?_ _) | (with_reducible refine Kd.C_drewN ?_ _) | (with_reducible refine Kd.C_drew ?_))); (case side2 => exact HC620_0.out); rintro e w34 ⟨rfl, hb⟩; refine ⟨_, rfl, ?_⟩; have n0_ := am_ (blk_below (bu BK619.out) hb); have n1_ := am_ (below_step z43_5 hb); clear BK619 HB; have BK619 := n0_; have HB := n1_; clear n0_ n1_; (try clear hb); (try clear hb2); (try clear hk); (try clear hi)))
       go_ret
       exact ⟨z43_3, z43_5⟩
     ·rw [if_neg c8] at H
      exact absurd H (by simp)
    ·rw [if_neg c7] at H
     have c7b0 : decide (x5_1 < (l0_0.length : Int)) = false := decide_eq_false c7
     clear c7
     by_cases c35 : x3_1 ≤ 14
     ·rw [if_pos c35] at H
      have c35b0 : decide (x3_1 ≤ 14) = true := decide_eq_true c35
      clear c35
      obtain rfl := Option.some.inj H
      have hcz36_0 : wr.cell? ⟨gb619, 0, none⟩ = some (.slice A0_0 l0_0.length c0_0) := (blk_cell BK619.out 0).trans rfl
      have hfz36_0 := blk_frozen BK619.out 0
      go_wp2
      go_ret
      exact ⟨z43_3, z43_5⟩
     ·rw [if_neg c35] at H
      have c35b0 : decide (x3_1 ≤ 14) = false := decide_eq_false c35
      clear c35
      obtain rfl := Option.some.inj H
      have hcz37_0 : wr.cell? ⟨gb619, 0, none⟩ = some (.slice A0_0 l0_0.length c0_0) := (blk_cell BK619.out 0).trans rfl
      have hfz37_0 := blk_frozen BK619.out 0
      go_wp2
      go_ret
      exact ⟨z43_3, z43_5⟩

end Go.Proofs.Ytefkbmhkhpekjaa.PB

namespace Go.Proofs.Ytefkbmhkhpekjaa.PB
open Go.RowKit Go.Proofs.YtefkbmhkhpekjaaW.PrintWords Go.Proofs.YtefkbmhkhpekjaaW.PrintLast Go.Proofs.YtefkbmhkhpekjaaW.PrintMore
attribute [local go_sem] max2_int min2_int max_two min_two max_three min_three max_four min_four   -- for this text's walks alone
open Go.Proofs.YtefkbmhkhpekjaaMine
set_option linter.unusedVariables false
set_option linter.unusedSimpArgs false

theorem z101_1 {p : Prop} (h : p := by first | rfl | (simp; done) | (simp [*]; done)) : p := h
theorem z101_2 {p : Prop} (h : p := by first | (with_reducible assumption) | assumption) : p := h
theorem z101_3 {p : Prop} (h : p := by repeat (first | exact Drawn0.refl _ | apply Drawn0.step)) : p := h
/-! ### spec_l12Has: function 101 -/
def spec_l12Has.l0 : Nat → List Int → Int → Int → Option (Bool)
  | 0, _, _, _ => none
  | k + 1, x0, x1, x5 => if x5 < (x0.length : Int) then (if 0 ≤ x5 then (if (rd x0 x5) = x1 then (some true) else (spec_l12Has.l0 k x0 x1 (wrap64 (x5 + 1)))) else (none)) else (some false)
def spec_l12Has.f (k : Nat) (l0 : List Int) (a1 : Int) : Option (Bool) := spec_l12Has.l0 k l0 a1 0
theorem spec_l12Has.mono_l : ∀ k, (∀ y0 y1 y2, LeO (spec_l12Has.l0 k y0 y1 y2) (spec_l12Has.l0 (k + 1) y0 y1 y2))
  | 0 => fun _ _ _ r h => by simp [spec_l12Has.l0] at h
  | k + 1 => by
    have ih0 := spec_l12Has.mono_l k
    · intro y0 y1 y2
      unfold spec_l12Has.l0
      repeat' first
      | (with_reducible exact ih0 _ _ _)
      | (with_reducible exact LeO.refl _)
      | (with_reducible exact LeO.none _)
      | (with_reducible refine LeO.ite ?_ ?_)
      | (with_reducible refine LeO.bind ?_ (fun _ => ?_))
      | exact ih0 _ _ _
      | exact LeO.none _
      | refine LeO.ite ?_ ?_
      | refine LeO.bind ?_ (fun _ => ?_)
theorem spec_l12Has.mono : ∀ a0 a1 k, LeO (spec_l12Has.f k a0 a1) (spec_l12Has.f (k + 1) a0 a1) := by
  intro a0 a1 k
  have ih0 := spec_l12Has.mono_l k
  unfold spec_l12Has.f
  repeat' first
      | (with_reducible exact ih0 _ _ _)
      | (with_reducible exact LeO.refl _)
      | (with_reducible exact LeO.none _)
      | (with_reducible refine LeO.ite ?_ ?_)
      | (with_reducible refine LeO.bind ?_ (fun _ => ?_))
      | exact ih0 _ _ _
      | exact LeO.none _
      | refine LeO.ite ?_ ?_
      | refine LeO.bind ?_ (fun _ => ?_)
set_option maxHeartbeats 8000000 in
set_option maxRecDepth 100000 in
theorem spec_l12Has.calls (k : Nat) (A0 : Option Addr) (c0 : Nat) (l0 : List Int) (a1 : Int) (r : Bool) (w : World) (hr0 : Kd.C (Kd.int .i64) w A0 l0.length l0) (hc0 : l0.length ≤ c0) (h : spec_l12Has.f k l0 a1 = some r) :
  Calls Try.prog 101 #[.slice A0 l0.length c0, .int .i64 a1] w fun e w' => e = .returned (.bool r) ∧ Drawn0 w w' := by
 have HR0 := am_ hr0
 have HC0 := am_ hc0
 clear hr0 hc0
 have H : (spec_l12Has.l0 k l0 a1 0) = some r := h
 clear h
 have H' := am_ H
 clear H
 go_enter Try.func101, Try.ntmps101
 go_wp2
 go_loopg [5] k (fun kq v5 w' => ∃ (x5_1 : Int), v5 = .int .i64 x5_1 ∧ Aside0 (spec_l12Has.l0 kq l0 a1 x5_1 = some r) ∧ Aside0 (kq ≤ k) ∧ Drawn0 w w')
 case atStart => exact ⟨(0), z101_1, H', ⟨Nat.le_refl _⟩, z101_3⟩
 case round =>
  clear H'
  obtain ⟨x5_1, rfl, HA, HK1, ⟨m1, rfl⟩⟩ := hrel
  cases gk with
  | zero => exact absurd HA.out (by simp [spec_l12Has.l0])
  | succ k1 =>
   have H := HA.out
   clear HA
   simp only [spec_l12Has.l0] at H
   by_cases c3 : x5_1 < (l0.length : Int)
   ·rw [if_pos c3] at H
    have c3b0 : decide (x5_1 < (l0.length : Int)) = true := decide_eq_true c3
    clear c3
    by_cases c4 : 0 ≤ x5_1
    ·rw [if_pos c4] at H
     have c4b0 : decide (0 ≤ x5_1) = true := decide_eq_true c4
     clear c4
     by_cases c5 : (rd l0 x5_1) = a1
     ·rw [if_pos c5] at H
      have c5b0 : ((rd l0 x5_1) == a1) = true := beq_iff_eq.mpr c5
      have c5b1 : ((rd l0 x5_1) != a1) = false := bne_eq_false_iff_eq.mpr c5
      clear c5
      obtain rfl := Option.some.inj H
      have p950 : 0 ≤ (x5_1 : Int) := of_decide_eq_true z101_2
      have q950 : x5_1 < (l0.length : Int) := of_decide_eq_true z101_2
      obtain ⟨ad950, e950, hx950_0⟩ := Kd.at_int HR0.out x5_1 p950 q950
      cases e950
      replace p950 := eq_true p950
      replace q950 := eq_true q950
      go_wp2
      go_ret
      exact ⟨z101_1, z101_3⟩
     ·rw [if_neg c5] at H
      have c5b0 : ((rd l0 x5_1) == a1) = false := beq_eq_false_iff_ne.mpr c5
      have c5b1 : ((rd l0 x5_1) != a1) = true := bne_iff_ne.mpr c5
      have H' := am_ H
      clear H
      have p950 : 0 ≤ (x5_1 : Int) := of_decide_eq_true z101_2
      have q950 : x5_1 < (l0.length : Int) := of_decide_eq_true z101_2
      obtain ⟨ad950, e950, hx950_0⟩ := Kd.at_int HR0.out x5_1 p950 q950
      cases e950
      replace p950 := eq_true p950
      replace q950 := eq_true q950
      go_wp2
      go_roundg k1
      case measure => have := HK1.out; omega
      case rel => exact ⟨(wrap64 (x5_1 + 1)), z101_1, H', ⟨by have := HK1.out; omega⟩, z101_3⟩
    ·rw [if_neg c4] at H
     exact absurd H (by simp)
   ·rw [if_neg c3] at H
    have c3b0 : decide (x5_1 < (l0.length : Int)) = false := decide_eq_false c3
    clear c3
    obtain rfl := Option.some.inj H
    go_wp2
    go_ret
    exact ⟨z101_1, z101_3⟩

end Go.Proofs.Ytefkbmhkhpekjaa.PB

namespace Go.Proofs.Ytefkbmhkhpekjaa.PB
open Go.RowKit Go.Proofs.YtefkbmhkhpekjaaW.PrintWords Go.Proofs.YtefkbmhkhpekjaaW.PrintLast Go.Proofs.YtefkbmhkhpekjaaW.PrintMore
attribute [local go_sem] max2_int min2_int max_two min_two max_three min_three max_four min_four   -- for this text's walks alone
open Go.Proofs.YtefkbmhkhpekjaaMine
set_option linter.unusedVariables false
set_option linter.unusedSimpArgs false

theorem z100_1 {p : Prop} (h : p := by first | rfl | (simp; done) | (simp [*]; done)) : p := h
theorem z100_2 {p : Prop} (h : p := by repeat (first | exact Drawn0.refl _ | apply Drawn0.step)) : p := h
/-! ### spec_l22Row: function 100 -/
def spec_l22Row.l0 : Nat → List Int → Int → Int → Option (Bool)
  | 0, _, _, _ => none
  | k + 1, x0, x1, x5 => if x5 < x1 then ((spec_l12Has.f k x0 x5).bind fun t998 => (if t998 = true then (spec_l22Row.l0 k x0 x1 (wrap64 (x5 + 1))) else (some false))) else (some true)
def spec_l22Row.f (k : Nat) (l0 : List Int) (a1 : Int) : Option (Bool) := if (l0.length : Int) = a1 then (spec_l22Row.l0 k l0 a1 0) else (some false)
theorem spec_l22Row.mono_l : ∀ k, (∀ y0 y1 y2, LeO (spec_l22Row.l0 k y0 y1 y2) (spec_l22Row.l0 (k + 1) y0 y1 y2))
  | 0 => fun _ _ _ r h => by simp [spec_l22Row.l0] at h
  | k + 1 => by
    have ih0 := spec_l22Row.mono_l k
    · intro y0 y1 y2
      unfold spec_l22Row.l0
      repeat' first
      | (with_reducible exact ih0 _ _ _)
      | (with_reducible exact spec_l12Has.mono _ _ _)
      | (with_reducible exact LeO.refl _)
      | (with_reducible exact LeO.none _)
      | (with_reducible refine LeO.ite ?_ ?_)
      | (with_reducible refine LeO.bind ?_ (fun _ => ?_))
      | exact ih0 _ _ _
      | exact spec_l12Has.mono _ _ _
      | exact LeO.none _
      | refine LeO.ite ?_ ?_
      | refine LeO.bind ?_ (fun _ => ?_)
theorem spec_l22Row.mono : ∀ a0 a1 k, LeO (spec_l22Row.f k a0 a1) (spec_l22Row.f (k + 1) a0 a1) := by
  intro a0 a1 k
  have ih0 := spec_l22Row.mono_l k
  unfold spec_l22Row.f
  repeat' first
      | (with_reducible exact ih0 _ _ _)
      | (with_reducible exact spec_l12Has.mono _ _ _)
      | (with_reducible exact LeO.refl _)
      | (with_reducible exact LeO.none _)
      | (with_reducible refine LeO.ite ?_ ?_)
      | (with_reducible refine LeO.bind ?_ (fun _ => ?_))
      | exact ih0 _ _ _
      | exact spec_l12Has.mono _ _ _
      | exact LeO.none _
      | refine LeO.ite ?_ ?_
      | refine LeO.bind ?_ (fun _ => ?_)
set_option maxHeartbeats 8000000 in
set_option maxRecDepth 100000 in
theorem spec_l22Row.calls (k : Nat) (A0 : Option Addr) (c0 : Nat) (l0 : List Int) (a1 : Int) (r : Bool) (w : World) (hr0 : Kd.C (Kd.int .i64) w A0 l0.length l0) (hc0 : l0.length ≤ c0) (h : spec_l22Row.f k l0 a1 = some r) :
  Calls Try.prog 100 #[.slice A0 l0.length c0, .int .i64 a1] w fun e w' => e = .returned (.bool r) ∧ Drawn0 w w' := by
 have HR0 := am_ hr0
 have HC0 := am_ hc0
 clear hr0 hc0
 have H : (if (l0.length : Int) = a1 then (spec_l22Row.l0 k l0 a1 0) else (some false)) = some r := h
 clear h
 by_cases c3 : (l0.length : Int) = a1
 ·rw [if_pos c3] at H
  have c3b0 : ((l0.length : Int) == a1) = true := beq_iff_eq.mpr c3
  have c3b1 : ((l0.length : Int) != a1) = false := bne_eq_false_iff_eq.mpr c3
  clear c3
  have H' := am_ H
  clear H
  go_enter Try.func100, Try.ntmps100
  go_wp2
  go_loopg [5] k (fun kq v5 w' => ∃ (x5_1 : Int), v5 = .int .i64 x5_1 ∧ Aside0 (spec_l22Row.l0 kq l0 a1 x5_1 = some r) ∧ Aside0 (kq ≤ k) ∧ Drawn0 w w')
  case atStart => exact ⟨(0), z100_1, H', ⟨Nat.le_refl _⟩, z100_2⟩
  case round =>
   clear H'
   obtain ⟨x5_1, rfl, HA, HK1, ⟨m1, rfl⟩⟩ := hrel
   cases gk with
   | zero => exact absurd HA.out (by simp [spec_l22Row.l0])
   | succ k1 =>
    have H := HA.out
    clear HA
    simp only [spec_l22Row.l0] at H
    by_cases c4 : x5_1 < a1
    ·rw [if_pos c4] at H
     have c4b0 : decide (x5_1 < a1) = true := decide_eq_true c4
     clear c4
     replace H := Option.bind_eq_some_iff.mp H
     obtain ⟨t998, A50, H⟩ := H
     replace H : (if t998 = true then (spec_l22Row.l0 k1 l0 a1 (wrap64 (x5_1 + 1))) else (some false)) = some r := H
     have A5 := am_ A50
     clear A50
     by_cases c6 : t998 = true
     ·subst c6
      have H1 : (spec_l22Row.l0 k1 l0 a1 (wrap64 (x5_1 + 1))) = some r := by rw [if_pos rfl] at H; exact H
      clear H
      have H := H1
      clear H1
      have H' := am_ H
      clear H
      go_wp2_with (first | ((with_reducible refine gate_callee (f := 101) rfl ?_); refine goesL_ (some 17) rfl rfl Try.func101 (by kernel_rfl) rfl #[.slice A0 l0.length c0, .int .i64 x5_1] rfl (by (try simp only [List.map_toArray, List.map_cons, List.map_nil]); first | done | rfl | (simp only [List.length_drop, List.length_take]; rfl)) ?_; (with_reducible refine (spec_l12Has.calls k1 _ _ l0 x5_1 true _ ?side1 ?side2 A5.out).mono ?_); (case side1 => repeat (first | exact HR0.out | (with_reducible refine Kd.C_alloc ?_ _) | (with_reducible refine Kd.C_drewN ?_ _) | (with_reducible refine Kd.C_drew ?_))); (case side2 => exact HC0.out); rintro e w' ⟨rfl, ⟨nd, rfl⟩⟩; refine ⟨_, rfl, ?_⟩))
      go_roundg k1
      case measure => have := HK1.out; omega
      case rel => exact ⟨(wrap64 (x5_1 + 1)), z100_1, H', ⟨by have := HK1.out; omega⟩, z100_2⟩
     ·replace c6 := Bool.eq_false_iff.mpr c6
      subst c6
      have H1 : (some false) = some r := by rw [if_neg (show ¬ (false = true) by decide)] at H; exact H
      clear H
      have H := H1
      clear H1
      obtain rfl := Option.some.inj H
      go_wp2_with (first | ((with_reducible refine gate_callee (f := 101) rfl ?_); refine goesL_ (some 17) rfl rfl Try.func101 (by kernel_rfl) rfl #[.slice A0 l0.length c0, .int .i64 x5_1] rfl (by (try simp only [List.map_toArray, List.map_cons, List.map_nil]); first | done | rfl | (simp only [List.length_drop, List.length_take]; rfl)) ?_; (with_reducible refine (spec_l12Has.calls k1 _ _ l0 x5_1 false _ ?side1 ?side2 A5.out).mono ?_); (case side1 => repeat (first | exact HR0.out | (with_reducible refine Kd.C_alloc ?_ _) | (with_reducible refine Kd.C_drewN ?_ _) | (with_reducible refine Kd.C_drew ?_))); (case side2 => exact HC0.out); rintro e w' ⟨rfl, ⟨nd, rfl⟩⟩; refine ⟨_, rfl, ?_⟩))
      go_ret
      exact ⟨z100_1, z100_2⟩
    ·rw [if_neg c4] at H
     have c4b0 : decide (x5_1 < a1) = false := decide_eq_false c4
     clear c4
     obtain rfl := Option.some.inj H
     go_wp2
     go_ret
     exact ⟨z100_1, z100_2⟩
 ·rw [if_neg c3] at H
  have c3b0 : ((l0.length : Int) == a1) = false := beq_eq_false_iff_ne.mpr c3
  have c3b1 : ((l0.length : Int) != a1) = true := bne_iff_ne.mpr c3
  obtain rfl := Option.some.inj H
  go_enter Try.func100, Try.ntmps100
  go_wp2
  go_ret
  exact ⟨z100_1, z100_2⟩

end Go.Proofs.Ytefkbmhkhpekjaa.PB

namespace Go.Proofs.Ytefkbmhkhpekjaa.PB
open Go.RowKit Go.Proofs.YtefkbmhkhpekjaaW.PrintWords Go.Proofs.YtefkbmhkhpekjaaW.PrintLast Go.Proofs.YtefkbmhkhpekjaaW.PrintMore
attribute [local go_sem] max2_int min2_int max_two min_two max_three min_three max_four min_four   -- for this text's walks alone
open Go.Proofs.YtefkbmhkhpekjaaMine
set_option linter.unusedVariables false
set_option linter.unusedSimpArgs false

theorem z49_1 {p : Prop} (h : p := by first | rfl | (simp; done) | (simp [*]; done)) : p := h
theorem z49_2 {p : Prop} (h : p := by first | (with_reducible assumption) | assumption) : p := h
theorem z49_3 {p : Prop} (h : p := by first | rfl | (simp [errW_none, errW_some] <;> rfl) | (simp [*, errW_none, errW_some] <;> rfl)) : p := h
theorem z49_4 {p : Prop} (h : p := by repeat (first | (with_reducible first | exact HB.out | apply below_alloc | apply pw_below_drewN | apply below_drew1) | exact HB.out)) : p := h
theorem z49_5 {p : Prop} (h : p := by first | exact Kd.S_nil _ _ _ _ _ | exact Kd.N_nil _ _ _ _ _ | exact Kd.V_nil _ _ _ _ _ | exact Kd.Q_nil _ _ _ _ _ | exact Kd.R_nil _ _ _ _ _) : p := h
theorem z49_6 {p : Prop} (h : p := by repeat (first | (with_reducible first | exact HB.out | apply below_alloc | apply pw_below_drewN | apply below_drew1 | refine below_set ?_ GE999.out) | exact HB.out)) : p := h
theorem z49_7 {p : Prop} (h : p := by repeat (first | (with_reducible first | exact HB.out | apply below_alloc | apply pw_below_drewN | apply below_drew1 | refine below_set ?_ GE999.out | refine below_set ?_ GE1000.out) | exact HB.out)) : p := h
theorem z49_8 {p : Prop} (h : p := by repeat (first | (with_reducible first | exact HB.out | apply below_alloc | apply pw_below_drewN | apply below_drew1 | refine below_set ?_ GE999.out | refine below_set ?_ GE1000.out | refine below_set ?_ GE1003.out) | exact HB.out)) : p := h
theorem z49_9 {p : Prop} (h : p := by (with_reducible repeat (first | refine blk_drewN ?_ _ | refine blk_drew ?_ | refine blk_alloc ?_ _)); refine blk_far ?_ NB999_1003.out _; (with_reducible repeat (first | refine blk_drewN ?_ _ | refine blk_drew ?_ | refine blk_alloc ?_ _)); exact BK999.out) : p := h
theorem z49_10 {p : Prop} (h : p := by (with_reducible repeat (first | refine blk_drewN ?_ _ | refine blk_drew ?_ | refine blk_alloc ?_ _)); refine blk_far ?_ NB1000_1003.out _; (with_reducible repeat (first | refine blk_drewN ?_ _ | refine blk_drew ?_ | refine blk_alloc ?_ _)); exact BK1000.out) : p := h
theorem z49_11 {p : Prop} (h : p := by (with_reducible repeat (first | refine blk_drewN ?_ _ | refine blk_drew ?_ | refine blk_alloc ?_ _)); refine blk_put (cs := #[.slice none 0 0]) ?_ 0 _ rfl; (with_reducible repeat (first | refine blk_drewN ?_ _ | refine blk_drew ?_ | refine blk_alloc ?_ _)); exact BK1000.out) : p := h
/-! ### spec_TurnThreads: function 49 -/
mutual
def spec_TurnThreads.j0 : Nat → List Int → Bool → List (List (S85)) → Option ((List (List (S85))) × Bool)
  | 0, _, _, _ => none
  | k + 1, x1, x18, x1000000 => if x18 = true then (some (([] : List (List (S85))), false)) else (spec_TurnThreads.l0 k x1 0 x1000000 ([] : List (List (S85))))
def spec_TurnThreads.l0 : Nat → List Int → Int → List (List (S85)) → List (List (S85)) → Option ((List (List (S85))) × Bool)
  | 0, _, _, _, _ => none
  | k + 1, x1, x7, x1000000, x1004000 => if x7 < (x1.length : Int) then ((some (([] : List (S85)) : List (S85))).bind fun y1004 => (if 0 ≤ x7 then (if 0 ≤ (rd x1 x7) then (if (rd x1 x7) < (x1000000.length : Int) then (if y1004.length + (rd_L7 x1000000 (rd x1 x7)).length < 5864062014805 then (if x1004000.length < 5864062014805 then (spec_TurnThreads.l0 k x1 (wrap64 (x7 + 1)) x1000000 (x1004000 ++ [(y1004 ++ (rd_L7 x1000000 (rd x1 x7)))])) else (none)) else (none)) else (none)) else (none)) else (none))) else (some (x1004000, true))
end
def spec_TurnThreads.f (k : Nat) (l0_0 : List (List (S85))) (l1 : List Int) : Option ((List (List (S85))) × Bool) := (spec_ProgOk.f k l0_0).bind fun t1001 => (if t1001 = true then ((spec_l22Row.f k l1 (l0_0.length : Int)).bind fun t1002 => (spec_TurnThreads.j0 k l1 (!t1002) l0_0)) else (spec_TurnThreads.j0 k l1 true l0_0))
theorem spec_TurnThreads.mono_l : ∀ k, (∀ y0 y1 y2, LeO (spec_TurnThreads.j0 k y0 y1 y2) (spec_TurnThreads.j0 (k + 1) y0 y1 y2)) ∧ (∀ y0 y1 y2 y3, LeO (spec_TurnThreads.l0 k y0 y1 y2 y3) (spec_TurnThreads.l0 (k + 1) y0 y1 y2 y3))
  | 0 => ⟨fun _ _ _ r h => by simp [spec_TurnThreads.j0] at h, fun _ _ _ _ r h => by simp [spec_TurnThreads.l0] at h⟩
  | k + 1 => by
    obtain ⟨ih0, ih1⟩ := spec_TurnThreads.mono_l k
    refine ⟨?_, ?_⟩
    · intro y0 y1 y2
      unfold spec_TurnThreads.j0
      repeat' first
      | (with_reducible exact ih0 _ _ _)
      | (with_reducible exact ih1 _ _ _ _)
      | (with_reducible exact spec_ProgOk.mono _ _)
      | (with_reducible exact spec_l22Row.mono _ _ _)
      | (with_reducible exact LeO.refl _)
      | (with_reducible exact LeO.none _)
      | (with_reducible refine LeO.ite ?_ ?_)
      | (with_reducible refine LeO.bind ?_ (fun _ => ?_))
      | exact ih0 _ _ _
      | exact ih1 _ _ _ _
      | exact spec_ProgOk.mono _ _
      | exact spec_l22Row.mono _ _ _
      | exact LeO.none _
      | refine LeO.ite ?_ ?_
      | refine LeO.bind ?_ (fun _ => ?_)
    · intro y0 y1 y2 y3
      unfold spec_TurnThreads.l0
      repeat' first
      | (with_reducible exact ih0 _ _ _)
      | (with_reducible exact ih1 _ _ _ _)
      | (with_reducible exact spec_ProgOk.mono _ _)
      | (with_reducible exact spec_l22Row.mono _ _ _)
      | (with_reducible exact LeO.refl _)
      | (with_reducible exact LeO.none _)
      | (with_reducible refine LeO.ite ?_ ?_)
      | (with_reducible refine LeO.bind ?_ (fun _ => ?_))
      | exact ih0 _ _ _
      | exact ih1 _ _ _ _
      | exact spec_ProgOk.mono _ _
      | exact spec_l22Row.mono _ _ _
      | exact LeO.none _
      | refine LeO.ite ?_ ?_
      | refine LeO.bind ?_ (fun _ => ?_)
theorem spec_TurnThreads.mono : ∀ a0 a1 k, LeO (spec_TurnThreads.f k a0 a1) (spec_TurnThreads.f (k + 1) a0 a1) := by
  intro a0 a1 k
  obtain ⟨ih0, ih1⟩ := spec_TurnThreads.mono_l k
  unfold spec_TurnThreads.f
  repeat' first
      | (with_reducible exact ih0 _ _ _)
      | (with_reducible exact ih1 _ _ _ _)
      | (with_reducible exact spec_ProgOk.mono _ _)
      | (with_reducible exact spec_l22Row.mono _ _ _)
      | (with_reducible exact LeO.refl _)
      | (with_reducible exact LeO.none _)
      | (with_reducible refine LeO.ite ?_ ?_)
      | (with_reducible refine LeO.bind ?_ (fun _ => ?_))
      | exact ih0 _ _ _
      | exact ih1 _ _ _ _
      | exact spec_ProgOk.mono _ _
      | exact spec_l22Row.mono _ _ _
      | exact LeO.none _
      | refine LeO.ite ?_ ?_
      | refine LeO.bind ?_ (fun _ => ?_)
def spec_TurnThreads.T7 : Bool × List (List Nat × List Nat) := (true, [([], []), ([0], [0]), ([], []), ([], []), ([3], [3]), ([], []), ([], []), ([5, 6], [5, 6]), ([7], [7]), ([4, 8], [4, 8]), ([9], [9]), ([2, 10], [2, 10]), ([11], [11]), ([1, 12, 11], [1, 12]), ([0, 1, 2, 3, 4, 5, 6, 7, 8, 9, 10, 11, 12, 13], []), ([14, 13, 13, 0, 1, 2, 3, 4, 5, 6, 7, 8, 9, 10, 11, 12, 13], [13, 14])])
def spec_TurnThreads.B7 : List Nat := [0, 1, 0, 0, 8, 0, 0, 96, 224, 504, 1016, 2044, 4092, 8191, 16383, 32767]
theorem spec_TurnThreads.tab7 : rtab .any (opsOf Try.f49 7) = spec_TurnThreads.T7 := by kernel_rfl
theorem spec_TurnThreads.bits7 : waitsOk spec_TurnThreads.T7.2 spec_TurnThreads.B7 = true := by kernel_rfl
set_option maxHeartbeats 8000000 in
set_option maxRecDepth 100000 in
theorem spec_TurnThreads.calls (k : Nat) (A0_0 : Option Addr) (c0_0 : Nat) (l0_0 : List (List (S85))) (A1 : Option Addr) (c1 : Nat) (l1 : List Int) (r1 : List (List (S85))) (r2 : Bool) (w : World) (hr0_0 : Kd.C (Kd.slice 85 k85) w A0_0 l0_0.length l0_0) (hc0_0 : l0_0.length ≤ c0_0) (hr1 : Kd.C (Kd.int .i64) w A1 l1.length l1) (hc1 : l1.length ≤ c1) (h : spec_TurnThreads.f k l0_0 l1 = some (r1, r2)) :
  Calls Try.prog 49 #[.agg #[.slice A0_0 l0_0.length c0_0], .slice A1 l1.length c1] w fun e w' => ∃ v0_ : Value, e = .returned (.tuple #[.agg #[v0_], .bool r2]) ∧ Kd.S (Kd.slice 85 k85) 82 w' w.heap.size (fun _ => True) v0_ r1 ∧ Below w.heap.size w w' := by
 have hu35 := Try.underlying35
 have HR0_0 := am_ hr0_0
 have HC0_0 := am_ hc0_0
 clear hr0_0 hc0_0
 have HR1 := am_ hr1
 have HC1 := am_ hc1
 clear hr1 hc1
 have HB := am_ (Below.refl w.heap.size w)
 have H : ((spec_ProgOk.f k l0_0).bind fun t1001 => (if t1001 = true then ((spec_l22Row.f k l1 (l0_0.length : Int)).bind fun t1002 => (spec_TurnThreads.j0 k l1 (!t1002) l0_0)) else (spec_TurnThreads.j0 k l1 true l0_0))) = some (r1, r2) := h
 clear h
 have HC3 := am_ H
 clear H
 go_enter Try.func49, Try.ntmps49
 go_upto_region 1 with (first | ((with_reducible refine gate_dst (N := 2) rfl ?_); (try (refine gate_guard (by rfl) ?_; dsimp only)); refine box_event ?hg (N := 2) ?hd (cs := #[.slice A0_0 l0_0.length c0_0]) (t := 35) ?hr ?_; (case hd => rfl); (case hg => rfl); (case hr => first | (go_simp; done) | (go_simp; rfl)); intro gb999 hg w4 hbox hb; have n0_ := am_ (below_step z49_4 hb); have n1_ := am_ (hbox); have n2_ := am_ (by rw [hg]; exact (below_size z49_4) : w.heap.size ≤ gb999); have n3_ := am_ (by rw [hg]; exact (below_size z49_4) : w.heap.size ≤ gb999); clear HB; have HB := n0_; have BK999 := n1_; have GW999 := n2_; have GE999 := n3_; clear n0_ n1_ n2_ n3_; clear hb hbox hg) | ((with_reducible refine gate_dst (N := 4) rfl ?_); (try (refine gate_guard (by rfl) ?_; dsimp only)); refine box_event ?hg (N := 4) ?hd (cs := #[.slice none 0 0]) (t := 35) ?hr ?_; (case hd => rfl); (case hg => rfl); (case hr => first | (go_simp; done) | (go_simp; rfl)); intro gb1000 hg w5 hbox hb; have n0_ := am_ (blk_below (bu BK999.out) hb); have n1_ := am_ (below_step z49_6 hb); have n2_ := am_ (hbox); have n3_ := am_ (by rw [hg]; exact (below_size z49_6) : w.heap.size ≤ gb1000); have n4_ := am_ (by rw [hg]; exact (below_size z49_6) : w.heap.size ≤ gb1000); have n5_ := am_ (by rw [hg]; exact Nat.ne_of_lt (blk_lt (bu BK999.out)) : gb999 ≠ gb1000); have n6_ := am_ (by rw [hg]; exact Nat.ne_of_gt (blk_lt (bu BK999.out)) : gb1000 ≠ gb999); clear BK999 HB; have BK999 := n0_; have HB := n1_; have BK1000 := n2_; have GW1000 := n3_; have GE1000 := n4_; have NB999_1000 := n5_; have NB1000_999 := n6_; clear n0_ n1_ n2_ n3_ n4_ n5_ n6_; clear hb hbox hg))
 (try simp only [Act.put, List.setIfInBounds_toArray, List.set_cons_zero, List.set_cons_succ])
 go_cut [18] (fun v18 wc => ∃ (kq : Nat) (x18_2 : Bool), v18 = .bool x18_2 ∧ Aside0 (spec_TurnThreads.j0 kq l1 x18_2 l0_0 = some (r1, r2)) ∧ Aside0 (kq ≤ k) ∧ Aside0 (wc.heap[gb999]? = some (.cells #[(.slice A0_0 l0_0.length c0_0)] 35 (0, 0))) ∧ Aside0 (wc.heap[gb1000]? = some (.cells #[(.slice none 0 0)] 35 (0, 0))) ∧ Aside0 (Below w.heap.size w wc))
 case first =>
  have H := HC3.out
  clear HC3
  replace H := Option.bind_eq_some_iff.mp H
  obtain ⟨t1001, A60, H⟩ := H
  replace H : (if t1001 = true then ((spec_l22Row.f k l1 (l0_0.length : Int)).bind fun t1002 => (spec_TurnThreads.j0 k l1 (!t1002) l0_0)) else (spec_TurnThreads.j0 k l1 true l0_0)) = some (r1, r2) := H
  have A6 := am_ A60
  clear A60
  by_cases c7 : t1001 = true
  ·subst c7
   have H1 : ((spec_l22Row.f k l1 (l0_0.length : Int)).bind fun t1002 => (spec_TurnThreads.j0 k l1 (!t1002) l0_0)) = some (r1, r2) := by rw [if_pos rfl] at H; exact H
   clear H
   have H := H1
   clear H1
   replace H := Option.bind_eq_some_iff.mp H
   obtain ⟨t1002, A80, H⟩ := H
   replace H : (spec_TurnThreads.j0 k l1 (!t1002) l0_0) = some (r1, r2) := H
   have A8 := am_ A80
   clear A80
   have H' := am_ H
   clear H
   have hnb9 := NB999_1000.out
   have hnc9 := NB1000_999.out
   have hcz10_0 : w5.cell? ⟨gb999, 0, none⟩ = some (.slice A0_0 l0_0.length c0_0) := (blk_cell BK999.out 0).trans rfl
   have hfz10_0 := blk_frozen BK999.out 0
   go_wp2_with (first | ((with_reducible refine gate_callee (f := 43) rfl ?_); refine goesL_ (some 9) rfl rfl Try.func43 (by kernel_rfl) rfl #[.agg #[.slice A0_0 l0_0.length c0_0]] rfl (by (try simp only [List.map_toArray, List.map_cons, List.map_nil]); first | done | rfl | (simp only [List.length_drop, List.length_take]; rfl)) ?_; (with_reducible refine (spec_ProgOk.calls k _ _ l0_0 true _ ?side1 ?side2 A6.out).mono ?_); (case side1 => repeat (first | exact (Kd.C_below HR0_0.out HB.out) | (with_reducible refine Kd.C_alloc ?_ _) | (with_reducible refine Kd.C_drewN ?_ _) | (with_reducible refine Kd.C_drew ?_))); (case side2 => exact HC0_0.out); rintro e w11 ⟨rfl, hb⟩; refine ⟨_, rfl, ?_⟩; have n0_ := am_ (blk_below (bu BK999.out) hb); have n1_ := am_ (blk_below (bu BK1000.out) hb); have n2_ := am_ (below_step z49_7 hb); clear BK999 BK1000 HB; have BK999 := n0_; have BK1000 := n1_; have HB := n2_; clear n0_ n1_ n2_; (try clear hb); (try clear hb2); (try clear hk); (try clear hi); have hcz12_0 : w11.cell? ⟨gb999, 0, none⟩ = some (.slice A0_0 l0_0.length c0_0) := (blk_cell BK999.out 0).trans rfl; have hfz12_0 := blk_frozen BK999.out 0) | (go_at_call 100; (with_reducible refine (spec_l22Row.calls k _ _ l1 (l0_0.length : Int) t1002 _ ?side1 ?side2 A8.out).mono ?_); (case side1 => repeat (first | exact (Kd.C_below HR1.out HB.out) | (with_reducible refine Kd.C_alloc ?_ _) | (with_reducible refine Kd.C_drewN ?_ _) | (with_reducible refine Kd.C_drew ?_))); (case side2 => exact HC1.out); rintro e w' ⟨rfl, ⟨nd, rfl⟩⟩))
   go_meet
   case rel => exact ⟨_, (!t1002), z49_1, H', ⟨by first | omega | exact Nat.le_refl _⟩, ⟨bu BK999.out⟩, ⟨bu BK1000.out⟩, ⟨z49_7⟩⟩
  ·replace c7 := Bool.eq_false_iff.mpr c7
   subst c7
   have H1 : (spec_TurnThreads.j0 k l1 true l0_0) = some (r1, r2) := by rw [if_neg (show ¬ (false = true) by decide)] at H; exact H
   clear H
   have H := H1
   clear H1
   have H' := am_ H
   clear H
   have hnb13 := NB999_1000.out
   have hnc13 := NB1000_999.out
   have hcz14_0 : w5.cell? ⟨gb999, 0, none⟩ = some (.slice A0_0 l0_0.length c0_0) := (blk_cell BK999.out 0).trans rfl
   have hfz14_0 := blk_frozen BK999.out 0
   go_wp2_with (first | ((with_reducible refine gate_callee (f := 43) rfl ?_); refine goesL_ (some 9) rfl rfl Try.func43 (by kernel_rfl) rfl #[.agg #[.slice A0_0 l0_0.length c0_0]] rfl (by (try simp only [List.map_toArray, List.map_cons, List.map_nil]); first | done | rfl | (simp only [List.length_drop, List.length_take]; rfl)) ?_; (with_reducible refine (spec_ProgOk.calls k _ _ l0_0 false _ ?side1 ?side2 A6.out).mono ?_); (case side1 => repeat (first | exact (Kd.C_below HR0_0.out HB.out) | (with_reducible refine Kd.C_alloc ?_ _) | (with_reducible refine Kd.C_drewN ?_ _) | (with_reducible refine Kd.C_drew ?_))); (case side2 => exact HC0_0.out); rintro e w15 ⟨rfl, hb⟩; refine ⟨_, rfl, ?_⟩; have n0_ := am_ (blk_below (bu BK999.out) hb); have n1_ := am_ (blk_below (bu BK1000.out) hb); have n2_ := am_ (below_step z49_7 hb); clear BK999 BK1000 HB; have BK999 := n0_; have BK1000 := n1_; have HB := n2_; clear n0_ n1_ n2_; (try clear hb); (try clear hb2); (try clear hk); (try clear hi)))
   go_meet
   case rel => exact ⟨_, (true), z49_1, H', ⟨by first | omega | exact Nat.le_refl _⟩, ⟨bu BK999.out⟩, ⟨bu BK1000.out⟩, ⟨z49_7⟩⟩
 case rest =>
  clear HC3
  obtain ⟨kq, x18_2, rfl, HA, HJ2, BK999, BK1000, HB⟩ := hcut
  cases kq with
  | zero => exact absurd HA.out (by simp [spec_TurnThreads.j0])
  | succ kj2 =>
   have H := HA.out
   clear HA
   simp only [spec_TurnThreads.j0] at H
   by_cases c16 : x18_2 = true
   ·subst c16
    have H1 : (some (([] : List (List (S85))), false)) = some (r1, r2) := by rw [if_pos rfl] at H; exact H
    clear H
    have H := H1
    clear H1
    simp only [Option.some.injEq, Prod.mk.injEq] at H
    obtain ⟨rfl, rfl⟩ := H
    have hnb17 := NB1000_999.out
    have hnc17 := NB999_1000.out
    have hcz18_0 : wc.cell? ⟨gb1000, 0, none⟩ = some (.slice none 0 0) := (blk_cell BK1000.out 0).trans rfl
    have hfz18_0 := blk_frozen BK1000.out 0
    go_wp2
    refine bodyPost_ret (results_ct rfl _ _ gb1000 35 #[.slice none 0 0] (0, 0) _ rfl z49_11 Try.underlying35 rfl (by kernel_rfl)) rfl ?_
    exact ⟨_, z49_3, z49_5, z49_7⟩
   ·replace c16 := Bool.eq_false_iff.mpr c16
    subst c16
    have H1 : (spec_TurnThreads.l0 kj2 l1 0 l0_0 ([] : List (List (S85)))) = some (r1, r2) := by rw [if_neg (show ¬ (false = true) by decide)] at H; exact H
    clear H
    have H := H1
    clear H1
    have H' := am_ H
    clear H
    go_wp2_with (first | ((with_reducible refine gate_dst (N := 6) rfl ?_); (try (refine gate_guard (by rfl) ?_; dsimp only)); refine box_event ?hg (N := 6) ?hd (cs := #[.slice none 0 0]) (t := 35) ?hr ?_; (case hd => rfl); (case hg => rfl); (case hr => first | (go_simp; done) | (go_simp; rfl)); intro gb1003 hg w19 hbox hb; have n0_ := am_ (blk_below (bu BK999.out) hb); have n1_ := am_ (blk_below (bu BK1000.out) hb); have n2_ := am_ (below_step z49_7 hb); have n3_ := am_ (hbox); have n4_ := am_ (by rw [hg]; exact (below_size z49_7) : w.heap.size ≤ gb1003); have n5_ := am_ (by rw [hg]; exact (below_size z49_7) : w.heap.size ≤ gb1003); have n6_ := am_ (by rw [hg]; exact Nat.ne_of_lt (blk_lt (bu BK999.out)) : gb999 ≠ gb1003); have n7_ := am_ (by rw [hg]; exact Nat.ne_of_gt (blk_lt (bu BK999.out)) : gb1003 ≠ gb999); have n8_ := am_ (by rw [hg]; exact Nat.ne_of_lt (blk_lt (bu BK1000.out)) : gb1000 ≠ gb1003); have n9_ := am_ (by rw [hg]; exact Nat.ne_of_gt (blk_lt (bu BK1000.out)) : gb1003 ≠ gb1000); clear BK999 BK1000 HB; have BK999 := n0_; have BK1000 := n1_; have HB := n2_; have BK1003 := n3_; have GW1003 := n4_; have GE1003 := n5_; have NB999_1003 := n6_; have NB1003_999 := n7_; have NB1000_1003 := n8_; have NB1003_1000 := n9_; clear n0_ n1_ n2_ n3_ n4_ n5_ n6_ n7_ n8_ n9_; clear hb hbox hg; have hnb20 := NB1003_999.out; have hnc20 := NB999_1003.out; have hnb21 := NB1003_1000.out; have hnc21 := NB1000_1003.out; have hcz22_0 : w19.cell? ⟨gb1003, 0, none⟩ = some (.slice none 0 0) := (blk_cell BK1003.out 0).trans rfl; have hfz22_0 := blk_frozen BK1003.out 0))
    go_loopg [7] kj2 (fun kq v7 w' => ∃ (x7_2 : Int) (x1004000_2 : List (List (S85))) (u1004000 : Value), v7 = .int .i64 x7_2 ∧ Aside0 (spec_TurnThreads.l0 kq l1 x7_2 l0_0 x1004000_2 = some (r1, r2)) ∧ Aside0 (kq ≤ kj2) ∧ Aside0 (Kd.S (Kd.slice 85 k85) 82 w' w.heap.size (fun _ => True) u1004000 x1004000_2) ∧ Aside0 (w'.heap[gb999]? = some (.cells #[(.slice A0_0 l0_0.length c0_0)] 35 (0, 0))) ∧ Aside0 (w'.heap[gb1000]? = some (.cells #[(.slice none 0 0)] 35 (0, 0))) ∧ Aside0 (w'.heap[gb1003]? = some (.cells #[u1004000] 35 (0, 0))) ∧ Aside0 (Below w.heap.size w w'))
    case atStart => exact ⟨(0), (([] : List (List (S85)))), (.slice none 0 0), z49_1, H', ⟨Nat.le_refl _⟩, ⟨z49_5⟩, ⟨z49_9⟩, ⟨z49_10⟩, ⟨by (with_reducible repeat (first | refine blk_drewN ?_ _ | refine blk_drew ?_ | refine blk_alloc ?_ _)); refine blk_put (cs := #[.slice none 0 0]) ?_ 0 _ rfl; (with_reducible repeat (first | refine blk_drewN ?_ _ | refine blk_drew ?_ | refine blk_alloc ?_ _)); exact BK1003.out⟩, ⟨z49_8⟩⟩
    case round =>
     clear H'
     obtain ⟨x7_2, x1004000_2, u1004000, rfl, HA, HK2, HO_1004000, BK999, BK1000, BK1003, HB⟩ := hrel
     cases gk with
     | zero => exact absurd HA.out (by simp [spec_TurnThreads.l0])
     | succ k2 =>
      have H := HA.out
      clear HA
      simp only [spec_TurnThreads.l0] at H
      by_cases c23 : x7_2 < (l1.length : Int)
      ·rw [if_pos c23] at H
       have c23b0 : decide (x7_2 < (l1.length : Int)) = true := decide_eq_true c23
       clear c23
       obtain ⟨y1004, hy1004⟩ : ∃ y_ : List (S85), y_ = (([] : List (S85))) := ⟨_, rfl⟩
       replace H : (if 0 ≤ x7_2 then (if 0 ≤ (rd l1 x7_2) then (if (rd l1 x7_2) < (l0_0.length : Int) then (if y1004.length + (rd_L7 l0_0 (rd l1 x7_2)).length < 5864062014805 then (if x1004000_2.length < 5864062014805 then (spec_TurnThreads.l0 k2 l1 (wrap64 (x7_2 + 1)) l0_0 (x1004000_2 ++ [(y1004 ++ (rd_L7 l0_0 (rd l1 x7_2)))])) else (none)) else (none)) else (none)) else (none)) else (none)) = some (r1, r2) := by first | (rw [hy1004]; with_reducible exact H) | (have H2_ := (Option.bind_some _ _).symm.trans H; rw [hy1004]; with_reducible exact H2_) | (have H2_ := (Option.bind_some _ _).symm.trans H; with_reducible exact H2_) | with_reducible exact H | (rw [hy1004]; exact H) | exact H
       have Ny1004 := am_ hy1004
       clear hy1004
       by_cases c24 : 0 ≤ x7_2
       ·rw [if_pos c24] at H
        have c24b0 : decide (0 ≤ x7_2) = true := decide_eq_true c24
        clear c24
        by_cases c25 : 0 ≤ (rd l1 x7_2)
        ·rw [if_pos c25] at H
         have c25b0 : decide (0 ≤ (rd l1 x7_2)) = true := decide_eq_true c25
         clear c25
         by_cases c26 : (rd l1 x7_2) < (l0_0.length : Int)
         ·rw [if_pos c26] at H
          have c26b0 : decide ((rd l1 x7_2) < (l0_0.length : Int)) = true := decide_eq_true c26
          clear c26
          by_cases c27 : y1004.length + (rd_L7 l0_0 (rd l1 x7_2)).length < 5864062014805
          ·rw [if_pos c27] at H
           have LMc27 := am_ c27
           clear c27
           obtain ⟨y1009, hy1009⟩ : ∃ y_ : List (S85), y_ = (y1004 ++ (rd_L7 l0_0 (rd l1 x7_2))) := ⟨_, rfl⟩
           replace H : (if x1004000_2.length < 5864062014805 then (spec_TurnThreads.l0 k2 l1 (wrap64 (x7_2 + 1)) l0_0 (x1004000_2 ++ [y1009])) else (none)) = some (r1, r2) := by first | (rw [hy1009]; with_reducible exact H) | (have H2_ := (Option.bind_some _ _).symm.trans H; rw [hy1009]; with_reducible exact H2_) | (have H2_ := (Option.bind_some _ _).symm.trans H; with_reducible exact H2_) | with_reducible exact H | (rw [hy1009]; exact H) | exact H
           have Ny1009 := am_ hy1009
           clear hy1009
           by_cases c28 : x1004000_2.length < 5864062014805
           ·rw [if_pos c28] at H
            have LMc28 := am_ c28
            clear c28
            obtain ⟨y1012, hy1012⟩ : ∃ y_ : List (List (S85)), y_ = (x1004000_2 ++ [y1009]) := ⟨_, rfl⟩
            replace H : (spec_TurnThreads.l0 k2 l1 (wrap64 (x7_2 + 1)) l0_0 y1012) = some (r1, r2) := by first | (rw [hy1012]; with_reducible exact H) | (have H2_ := (Option.bind_some _ _).symm.trans H; rw [hy1012]; with_reducible exact H2_) | (have H2_ := (Option.bind_some _ _).symm.trans H; with_reducible exact H2_) | with_reducible exact H | (rw [hy1012]; exact H) | exact H
            have Ny1012 := am_ hy1012
            clear hy1012
            have H' := am_ H
            clear H
            try go_wp2
            have n0_ := am_ (Kd.S_drew HO_1004000.out)
            have n1_ := am_ (blk_drew BK999.out)
            have n2_ := am_ (blk_drew BK1000.out)
            have n3_ := am_ (blk_drew BK1003.out)
            have n4_ := am_ (below_drew1 HB.out)
            clear HO_1004000 BK999 BK1000 BK1003 HB
            have HO_1004000 := n0_
            have BK999 := n1_
            have BK1000 := n2_
            have BK1003 := n3_
            have HB := n4_
            clear n0_ n1_ n2_ n3_ n4_
            have p1007 : 0 ≤ (x7_2 : Int) := of_decide_eq_true z49_2
            have q1007 : x7_2 < (l1.length : Int) := of_decide_eq_true z49_2
            obtain ⟨ad1007, e1007, hx1007_0⟩ := Kd.at_int HR1.out x7_2 p1007 q1007
            have hw1007_0 := hx1007_0
            cases e1007
            replace hx1007_0 := (HB.out.cell (World.block_lt_of_cell? w _ hx1007_0)).trans hx1007_0
            replace p1007 := eq_true p1007
            replace q1007 := eq_true q1007
            have p1008 : 0 ≤ ((rd l1 x7_2) : Int) := of_decide_eq_true z49_2
            have q1008 : (rd l1 x7_2) < (l0_0.length : Int) := of_decide_eq_true z49_2
            obtain ⟨ad1008, A1008_0, c1008_0, e1008, hx1008_0, hl1008_0, hi1008_0⟩ := at_L7 HR0_0.out (rd l1 x7_2) p1008 q1008
            have hw1008_0 := hx1008_0
            cases e1008
            replace hx1008_0 := (HB.out.cell (World.block_lt_of_cell? w _ hx1008_0)).trans hx1008_0
            have HR1008_0 := am_ hi1008_0
            have HC1008_0 := am_ hl1008_0
            clear hi1008_0 hl1008_0
            replace p1008 := eq_true p1008
            replace q1008 := eq_true q1008
            refine start_ (n := 16) (S := fun w' => w'.cell? ⟨gb1003, 0, none⟩ = some (u1004000) ∧ w'.cell? ⟨gb999, 0, none⟩ = some (.slice (some ad1008) l0_0.length c0_0) ∧ w'.cell? (ad1007.add (x7_2).toNat) = some (.int .i64 (rd l1 x7_2)) ∧ w'.cell? (ad1008.add ((rd l1 x7_2)).toNat) = some (.slice A1008_0 (rd_L7 l0_0 (rd l1 x7_2)).length c1008_0)) (ds := [15]) #[false, false, false, false, false, false, false, false, false, false, false, false, false, false, false, false] (by kernel_rfl) rfl rfl ⟨(blk_cell BK1003.out 0).trans rfl, (blk_cell BK999.out 0).trans rfl, ((HB.out.cell (World.block_lt_of_cell? w _ hw1007_0)).trans hw1007_0), ((HB.out.cell (World.block_lt_of_cell? w _ hw1008_0)).trans hw1008_0)⟩ (fun hHeld => ?_); refine with_tabW spec_TurnThreads.tab7 spec_TurnThreads.bits7 (fun HT_ HW_ => ?_)
            generalize wr.drew = w29 at HO_1004000 BK999 BK1000 BK1003 HB HR1008_0 hx1007_0 hx1008_0 hHeld ⊢
            refine pure_ (i := 0) (N := some 27) (v := ?_) (a' := ?_) #[true, false, false, false, false, false, false, false, false, false, false, false, false, false, false, false] rfl rfl (any_of HT_.out (by kernel_rfl)) (fun _ _ _ h => h) (Or.inl ⟨by rfl, ?_⟩) ?_ ?_
            rotate_left
            ·intro w'
             go_simp
             with_reducible rfl
            rotate_left
            ·simp only [Act.put, List.setIfInBounds_toArray, List.set_cons_zero, List.set_cons_succ, i64_w, i32_w]
             rfl
            refine pure_ (i := 3) (N := some 30) (v := ?_) (a' := ?_) #[true, false, false, true, false, false, false, false, false, false, false, false, false, false, false, false] rfl rfl (any_of HT_.out (by kernel_rfl)) (fun _ _ _ h => h) (Or.inl ⟨by rfl, ?_⟩) ?_ ?_
            rotate_left
            ·intro w'
             go_simp
             with_reducible rfl
            rotate_left
            ·simp only [Act.put, List.setIfInBounds_toArray, List.set_cons_zero, List.set_cons_succ, i64_w, i32_w]
             rfl
            refine pure_ (i := 5) (N := some 32) (v := ?_) (a' := ?_) #[true, false, false, true, false, true, false, false, false, false, false, false, false, false, false, false] rfl rfl (any_of HT_.out (by kernel_rfl)) (fun _ _ _ h => h) (Or.inl ⟨by rfl, ?_⟩) ?_ ?_
            rotate_left
            ·intro w'
             go_simp
             with_reducible rfl
            rotate_left
            ·simp only [Act.put, List.setIfInBounds_toArray, List.set_cons_zero, List.set_cons_succ, i64_w, i32_w]
             rfl
            refine pure_ (i := 6) (N := some 33) (v := ?_) (a' := ?_) #[true, false, false, true, false, true, true, false, false, false, false, false, false, false, false, false] rfl rfl (any_of HT_.out (by kernel_rfl)) (fun _ _ _ h => h) (Or.inl ⟨by rfl, ?_⟩) ?_ ?_
            rotate_left
            ·intro w'
             go_simp
             with_reducible rfl
            rotate_left
            ·simp only [Act.put, List.setIfInBounds_toArray, List.set_cons_zero, List.set_cons_succ, i64_w, i32_w]
             rfl
            refine pure_ (i := 7) (N := some 34) (v := ?_) (a' := ?_) #[true, false, false, true, false, true, true, true, false, false, false, false, false, false, false, false] rfl rfl (any_of HT_.out (by kernel_rfl)) (fun _ _ _ h => h) (Or.inl ⟨by rfl, ?_⟩) ?_ ?_
            rotate_left
            ·intro w'
             go_simp
             with_reducible rfl
            rotate_left
            ·simp only [Act.put, List.setIfInBounds_toArray, List.set_cons_zero, List.set_cons_succ, i64_w, i32_w]
             rfl
            refine take_ (i := 1) (N := some 28) (v := ?_) (a' := ?_) #[true, true, false, true, false, true, true, true, false, false, false, false, false, false, false, false] rfl rfl (take_ofW HT_.out HW_.out (by kernel_rfl)) (fun _ _ _ h => h) (Or.inl ⟨by rfl, ?_⟩) hHeld ?_ ?_
            rotate_left
            ·rintro w' ⟨s0, s1, s2, s3⟩
             go_simp
             with_reducible rfl
            rotate_left
            ·simp only [Act.put, List.setIfInBounds_toArray, List.set_cons_zero, List.set_cons_succ, i64_w, i32_w]
             rfl
            refine take_ (i := 4) (N := some 31) (v := ?_) (a' := ?_) #[true, true, false, true, true, true, true, true, false, false, false, false, false, false, false, false] rfl rfl (take_ofW HT_.out HW_.out (by kernel_rfl)) (fun _ _ _ h => h) (Or.inl ⟨by rfl, ?_⟩) hHeld ?_ ?_
            rotate_left
            ·rintro w' ⟨s0, s1, s2, s3⟩
             go_simp
             with_reducible rfl
            rotate_left
            ·simp only [Act.put, List.setIfInBounds_toArray, List.set_cons_zero, List.set_cons_succ, i64_w, i32_w]
             rfl
            refine take_ (i := 8) (N := some 35) (v := ?_) (a' := ?_) #[true, true, false, true, true, true, true, true, true, false, false, false, false, false, false, false] rfl rfl (take_ofW HT_.out HW_.out (by kernel_rfl)) (fun _ _ _ h => h) (Or.inl ⟨by rfl, ?_⟩) hHeld ?_ ?_
            rotate_left
            ·rintro w' ⟨s0, s1, s2, s3⟩
             go_simp
             with_reducible rfl
            rotate_left
            ·simp only [Act.put, List.setIfInBounds_toArray, List.set_cons_zero, List.set_cons_succ, i64_w, i32_w]
             rfl
            refine pure_ (i := 9) (N := some 36) (v := ?_) (a' := ?_) #[true, true, false, true, true, true, true, true, true, true, false, false, false, false, false, false] rfl rfl (any_of HT_.out (by kernel_rfl)) (fun _ _ _ h => h) (Or.inl ⟨by rfl, ?_⟩) ?_ ?_
            rotate_left
            ·intro w'
             go_simp
             with_reducible rfl
            rotate_left
            ·simp only [Act.put, List.setIfInBounds_toArray, List.set_cons_zero, List.set_cons_succ, i64_w, i32_w]
             rfl
            refine take_ (i := 10) (N := some 37) (v := ?_) (a' := ?_) #[true, true, false, true, true, true, true, true, true, true, true, false, false, false, false, false] rfl rfl (take_ofW HT_.out HW_.out (by kernel_rfl)) (fun _ _ _ h => h) (Or.inl ⟨by rfl, ?_⟩) hHeld ?_ ?_
            rotate_left
            ·rintro w' ⟨s0, s1, s2, s3⟩
             go_simp
             with_reducible rfl
            rotate_left
            ·simp only [Act.put, List.setIfInBounds_toArray, List.set_cons_zero, List.set_cons_succ, i64_w, i32_w]
             rfl
            refine one_ (i := 2) (N := some 29) #[true, true, true, true, true, true, true, true, true, true, true, false, false, false, false, false] rfl rfl (one_of HT_.out (by kernel_rfl)) (by decide) (fun K hK => ?_)
            refine Kd.R_lit_step k85 _ 85 ?hg (N := 29) ?hd (xs := ([] : List (S85))) (inner := []) (ok := fun _ => True) (okp := fun _ => True) ?hr ?hp (fun _ hk => hk) trivial (Below.refl _ _) (Nat.le_refl _) (by simp) ?_; (case hd => rfl); (case hg => rfl); (case hr => first | (go_simp; done) | (go_simp; rfl)); (case hp => exact (Reps.none _ _))
            intro v1005 w30 ho31 hb hg_ hnew_
            clear hg_ hnew_
            (first | rw [← Ny1004.out] at ho31 | (simp only [Int.reduceToNat] at ho31; rw [← Ny1004.out] at ho31))
            have n0_ := am_ (Kd.S_elder' (su HO_1004000.out) (Kd.R_base ho31) hb)
            have n1_ := am_ (Kd.R_lower ho31 (below_size z49_8))
            have n2_ := am_ (blk_below (bu BK999.out) hb)
            have n3_ := am_ (blk_below (bu BK1000.out) hb)
            have n4_ := am_ (blk_below (bu BK1003.out) hb)
            have n5_ := am_ (below_step z49_8 hb)
            clear HO_1004000 BK999 BK1000 BK1003 HB
            have HO_1004000 := n0_
            have HO1006 := n1_
            have BK999 := n2_
            have BK1000 := n3_
            have BK1003 := n4_
            have HB := n5_
            clear n0_ n1_ n2_ n3_ n4_ n5_ hb ho31
            refine hK.out _ _ ⟨(blk_cell BK1003.out 0).trans rfl, (blk_cell BK999.out 0).trans rfl, ((HB.out.cell (World.block_lt_of_cell? w _ hw1007_0)).trans hw1007_0), ((HB.out.cell (World.block_lt_of_cell? w _ hw1008_0)).trans hw1008_0)⟩ (fun hHeld => ?_)
            clear hK K
            refine norm_ (a' := ?_) ?_ ?_
            rotate_left
            ·show Act.put _ (some 29) _ = _
             simp only [Act.put, List.setIfInBounds_toArray, List.set_cons_zero, List.set_cons_succ, i64_w, i32_w]
             rfl
            refine one_ (i := 11) (N := some 38) #[true, true, true, true, true, true, true, true, true, true, true, true, false, false, false, false] rfl rfl (one_of HT_.out (by kernel_rfl)) (by decide) (fun K hK => ?_)
            refine Kd.R_append_rows_step k85 (w0 := w) w.heap.size (by rfl) (.tmp 29) (.tmp 37) 82 85 (.agg #[(.int .i64 0), (.int .i64 0), (.int .i64 0)]) 24 rfl Try.underlying82 info85 rfl (by decide) (by omega) v1005 y1004 (rd_L7 l0_0 (rd l1 x7_2)) _ _ _ (fun _ => True) (fun _ => False) rfl rfl ?aO ?aR (fun _ _ h => h) (fun _ h => h.elim) ?aF ?aB ?aS ?aL ?_
            (case aR => repeat (first | exact (Kd.C_below HR1008_0.out HB.out) | (with_reducible refine Kd.C_alloc ?_ _) | (with_reducible refine Kd.C_drewN ?_ _) | (with_reducible refine Kd.C_drew ?_)))
            (case aB => exact z49_8)
            (case aF => exact (fun _ _ => trivial))
            (case aO => exact (ru HO1006.out))
            (case aS => exact (below_size z49_8))
            (case aL => have := LMc27.out; omega)
            intro v1010 w32 ho hb hg hat
            rw [← Ny1009.out] at ho
            have n0_ := am_ (Kd.S_after (ok := (fun _ => True)) (su HO_1004000.out) hg hat)
            have n1_ := am_ (blk_grown (bu BK999.out) hg (Kd.R_ne HO1006.out BK999.out (by decide)))
            have n2_ := am_ (blk_grown (bu BK1000.out) hg (Kd.R_ne HO1006.out BK1000.out (by decide)))
            have n3_ := am_ (blk_grown (bu BK1003.out) hg (Kd.R_ne HO1006.out BK1003.out (by decide)))
            have n4_ := am_ (hb)
            have n5_ := am_ (ho)
            clear HO_1004000 BK999 BK1000 BK1003 HB HO1006
            have HO_1004000 := n0_
            have BK999 := n1_
            have BK1000 := n2_
            have BK1003 := n3_
            have HB := n4_
            have HO1011 := n5_
            clear n0_ n1_ n2_ n3_ n4_ n5_ ho hb hg hat
            obtain ⟨Ao34, co34, eo34⟩ := Kd.R_slice HO1011.out
            (first | subst eo34 | (injection eo34 with f1_ f2_ f3_; have f4_ := f1_.symm; have f5_ := f3_.symm; clear f1_ f2_ f3_; subst f4_; subst f5_))
            refine hK.out _ _ ⟨(blk_cell BK1003.out 0).trans rfl, (blk_cell BK999.out 0).trans rfl, ((HB.out.cell (World.block_lt_of_cell? w _ hw1007_0)).trans hw1007_0), ((HB.out.cell (World.block_lt_of_cell? w _ hw1008_0)).trans hw1008_0)⟩ (fun hHeld => ?_)
            clear hK K
            refine norm_ (a' := ?_) ?_ ?_
            rotate_left
            ·show Act.put _ (some 38) _ = _
             simp only [Act.put, List.setIfInBounds_toArray, List.set_cons_zero, List.set_cons_succ, i64_w, i32_w]
             rfl
            refine one_ (i := 12) (N := some 39) #[true, true, true, true, true, true, true, true, true, true, true, true, true, false, false, false] rfl rfl (one_of HT_.out (by kernel_rfl)) (by decide) (fun K hK => ?_)
            refine value_ (w1 := ?_) (v := ?_) (by rfl) rfl ?_ ?_
            rotate_left 2
            ·go_simp
             constructor
             ·rfl
             ·rfl
            refine hK.out _ _ ⟨(blk_cell (blk_alloc BK1003.out _) 0).trans rfl, (blk_cell (blk_alloc BK999.out _) 0).trans rfl, (World.cell?_alloc_lt _ _ _ (World.block_lt_of_cell? _ _ (((HB.out.cell (World.block_lt_of_cell? w _ hw1007_0)).trans hw1007_0)))).trans (((HB.out.cell (World.block_lt_of_cell? w _ hw1007_0)).trans hw1007_0)), (World.cell?_alloc_lt _ _ _ (World.block_lt_of_cell? _ _ (((HB.out.cell (World.block_lt_of_cell? w _ hw1008_0)).trans hw1008_0)))).trans (((HB.out.cell (World.block_lt_of_cell? w _ hw1008_0)).trans hw1008_0))⟩ (fun hHeld => ?_)
            clear hK K
            refine norm_ (a' := ?_) ?_ ?_
            rotate_left
            ·show Act.put _ (some 39) _ = _
             simp only [Act.put, List.setIfInBounds_toArray, List.set_cons_zero, List.set_cons_succ, i64_w, i32_w]
             rfl
            refine one_ (i := 13) (N := some 40) #[true, true, true, true, true, true, true, true, true, true, true, true, true, true, false, false] rfl rfl (one_of HT_.out (by kernel_rfl)) (by decide) (fun K hK => ?_)
            refine Kd.S_append_step (Kd.slice 85 k85) (w0 := w) w.heap.size (by rfl) (.tmp 28) (.tmp 39) 33 82 (.slice none 0 0) 24 rfl Try.underlying33 info82 rfl (by decide) (by omega) u1004000 x1004000_2 y1009 [.slice Ao34 y1009.length co34] (fun _ => True) (fun k_ => some k_ = (.slice Ao34 y1009.length co34 : Value).ownBlock) rfl rfl ?aP (fun k_ hk_ => ((Kd.R_mono (ok' := fun k_ => ((fun _ => True)) k_ ∧ some k_ ≠ (u1004000 : Value).ownBlock) (Kd.R_apart' (HO1011.out) (Kd.S_typed HO_1004000.out) (by decide)) (fun k_ hk => ⟨trivial, hk.2⟩))).1 k_ hk_.symm) ?aF ?aO ?aB ?aS ?aL ?_
            (case aP => exact Kd.M_row (Kd.R_mono (Kd.R_tight rfl (Kd.R_mono (ok' := fun k_ => ((fun _ => True)) k_ ∧ some k_ ≠ (u1004000 : Value).ownBlock) (Kd.R_apart' (HO1011.out) (Kd.S_typed HO_1004000.out) (by decide)) (fun k_ hk => ⟨trivial, hk.2⟩))) (fun _ h_ => h_)))
            (case aB => exact z49_8)
            (case aF => exact (fun _ _ => trivial))
            (case aO => exact (su (Kd.S_mono HO_1004000.out (fun k_ hk => ⟨trivial, fun e_ => hk.2 e_⟩))))
            (case aS => exact (below_size z49_8))
            (case aL => have := LMc28.out; omega)
            intro v1013 w33 ho hb hg hat
            rw [← Ny1012.out] at ho
            have n0_ := am_ (blk_grown (bu BK999.out) hg (Kd.S_ne HO_1004000.out BK999.out (by decide)))
            have n1_ := am_ (blk_grown (bu BK1000.out) hg (Kd.S_ne HO_1004000.out BK1000.out (by decide)))
            have n2_ := am_ (blk_grown (bu BK1003.out) hg (Kd.S_ne HO_1004000.out BK1003.out (by decide)))
            have n3_ := am_ (hb)
            have n4_ := am_ (ho)
            clear BK999 BK1000 BK1003 HB HO_1004000 HO1011
            have BK999 := n0_
            have BK1000 := n1_
            have BK1003 := n2_
            have HB := n3_
            have HO1014 := n4_
            clear n0_ n1_ n2_ n3_ n4_ ho hb hg hat
            obtain ⟨Ao35, co35, eo35⟩ := Kd.S_slice HO1014.out
            (first | subst eo35 | (injection eo35 with f1_ f2_ f3_; have f4_ := f1_.symm; have f5_ := f3_.symm; clear f1_ f2_ f3_; subst f4_; subst f5_))
            refine hK.out _ _ ⟨(blk_cell BK1003.out 0).trans rfl, (blk_cell BK999.out 0).trans rfl, ((HB.out.cell (World.block_lt_of_cell? w _ hw1007_0)).trans hw1007_0), ((HB.out.cell (World.block_lt_of_cell? w _ hw1008_0)).trans hw1008_0)⟩ (fun hHeld => ?_)
            clear hK K
            refine norm_ (a' := ?_) ?_ ?_
            rotate_left
            ·show Act.put _ (some 40) _ = _
             simp only [Act.put, List.setIfInBounds_toArray, List.set_cons_zero, List.set_cons_succ, i64_w, i32_w]
             rfl
            refine pure_ (i := 14) (N := some 41) (v := ?_) (a' := ?_) #[true, true, true, true, true, true, true, true, true, true, true, true, true, true, true, false] rfl rfl (any_of HT_.out (by kernel_rfl)) (fun _ _ _ h => h) (Or.inl ⟨by rfl, ?_⟩) ?_ ?_
            rotate_left
            ·intro w'
             go_simp
             with_reducible rfl
            rotate_left
            ·simp only [Act.put, List.setIfInBounds_toArray, List.set_cons_zero, List.set_cons_succ, i64_w, i32_w]
             rfl
            refine last_ (i := 15) (N := none) #[true, true, true, true, true, true, true, true, true, true, true, true, true, true, true, true] rfl rfl (one_of HT_.out (by kernel_rfl)) (by decide) (fun K hK => ?_)
            have hs36 : w33.cell? ⟨gb1003, 0, none⟩ = some (u1004000) := (blk_cell BK1003.out 0).trans rfl
            have hfs36 := blk_frozen BK1003.out 0
            have hns36_0 := NB999_1003.out
            have hns36_1 := NB1000_1003.out
            have hms36_0 := NB1003_999.out
            have hms36_1 := NB1003_1000.out
            refine skip_ (w1 := ?_) (by rfl) rfl ?_ ?_
            rotate_left
            ·go_simp
             rfl
            refine hK.out _ _ ?_
            clear hK K
            refine done_ (done_of HT_.out (by kernel_rfl)) ?_
            try go_wp2
            go_roundg k2
            case measure => have := HJ2.out; have := HK2.out; omega
            case rel => exact ⟨(wrap64 (x7_2 + 1)), (y1012), (.slice Ao35 y1012.length co35), z49_1, H', ⟨by have := HJ2.out; have := HK2.out; omega⟩, ⟨su (Kd.S_mono (Kd.S_far (p := ⟨gb1003, 0, none⟩) (Kd.S_types HO1014.out BK1003.out (by decide)) (fun _ hk => hk.2) (.slice Ao35 y1012.length co35)) (fun _ hk => trivial))⟩, ⟨z49_9⟩, ⟨z49_10⟩, ⟨by (with_reducible repeat (first | refine blk_drewN ?_ _ | refine blk_drew ?_ | refine blk_alloc ?_ _)); refine blk_put (cs := #[u1004000]) ?_ 0 _ rfl; (with_reducible repeat (first | refine blk_drewN ?_ _ | refine blk_drew ?_ | refine blk_alloc ?_ _)); exact BK1003.out⟩, ⟨z49_8⟩⟩
           ·rw [if_neg c28] at H
            exact absurd H (by simp)
          ·rw [if_neg c27] at H
           exact absurd H (by simp)
         ·rw [if_neg c26] at H
          exact absurd H (by simp)
        ·rw [if_neg c25] at H
         exact absurd H (by simp)
       ·rw [if_neg c24] at H
        exact absurd H (by simp)
      ·rw [if_neg c23] at H
       have c23b0 : decide (x7_2 < (l1.length : Int)) = false := decide_eq_false c23
       clear c23
       simp only [Option.some.injEq, Prod.mk.injEq] at H
       obtain ⟨rfl, rfl⟩ := H
       have hnb37 := NB1003_999.out
       have hnc37 := NB999_1003.out
       have hnb38 := NB1003_1000.out
       have hnc38 := NB1000_1003.out
       have hcz39_0 : wr.cell? ⟨gb1003, 0, none⟩ = some (u1004000) := (blk_cell BK1003.out 0).trans rfl
       have hfz39_0 := blk_frozen BK1003.out 0
       obtain ⟨Ao40, co40, eo40⟩ := Kd.S_slice HO_1004000.out
       subst eo40
       have hnb41 := NB1000_999.out
       have hnc41 := NB999_1000.out
       have hcz42_0 : wr.cell? ⟨gb1000, 0, none⟩ = some (.slice none 0 0) := (blk_cell BK1000.out 0).trans rfl
       have hfz42_0 := blk_frozen BK1000.out 0
       go_wp2
       refine bodyPost_ret (results_ct rfl _ _ gb1000 35 #[.slice Ao40 x1004000_2.length co40] (0, 0) _ rfl z49_11 Try.underlying35 rfl (by kernel_rfl)) rfl ?_
       exact ⟨_, z49_3, su (Kd.S_mono (Kd.S_far (p := ⟨gb1000, 0, none⟩) (Kd.S_types HO_1004000.out BK1000.out (by decide)) (fun _ hk => hk.2) (.slice Ao40 x1004000_2.length co40)) (fun _ hk => trivial)), z49_8⟩

end Go.Proofs.Ytefkbmhkhpekjaa.PB

namespace Go.Proofs.Ytefkbmhkhpekjaa.PB
open Go.RowKit Go.Proofs.YtefkbmhkhpekjaaW.PrintWords Go.Proofs.YtefkbmhkhpekjaaW.PrintLast Go.Proofs.YtefkbmhkhpekjaaW.PrintMore
attribute [local go_sem] max2_int min2_int max_two min_two max_three min_three max_four min_four   -- for this text's walks alone
open Go.Proofs.YtefkbmhkhpekjaaMine
set_option linter.unusedVariables false
set_option linter.unusedSimpArgs false

theorem z54_1 {p : Prop} (h : p := by first | (with_reducible assumption) | assumption) : p := h
theorem z54_2 {p : Prop} (h : p := by repeat (first | (with_reducible first | exact HB.out | apply below_alloc | apply pw_below_drewN | apply below_drew1) | exact HB.out)) : p := h
/-! ### laws_toIntS: function 54 -/
def laws_toIntS.l0 : Nat → List Int → List Int → Int → Option (List Int)
  | 0, _, _, _ => none
  | k + 1, x0, x3, x4 => if x4 < (x0.length : Int) then (if 0 ≤ x4 then (if x4 < (x3.length : Int) then (laws_toIntS.l0 k x0 (x3.set (x4 : Int).toNat (rd x0 x4)) (wrap64 (x4 + 1))) else (none)) else (none)) else (some x3)
def laws_toIntS.f (k : Nat) (l0 : List Int) : Option (List Int) := if 0 ≤ (l0.length : Int) then (if ((l0.length : Int) : Int).toNat ≤ 35184372088832 then (laws_toIntS.l0 k l0 (List.replicate ((l0.length : Int) : Int).toNat 0) 0) else (none)) else (none)
theorem laws_toIntS.mono_l : ∀ k, (∀ y0 y1 y2, LeO (laws_toIntS.l0 k y0 y1 y2) (laws_toIntS.l0 (k + 1) y0 y1 y2))
  | 0 => fun _ _ _ r h => by simp [laws_toIntS.l0] at h
  | k + 1 => by
    have ih0 := laws_toIntS.mono_l k
    · intro y0 y1 y2
      unfold laws_toIntS.l0
      repeat' first
      | (with_reducible exact ih0 _ _ _)
      | (with_reducible exact LeO.refl _)
      | (with_reducible exact LeO.none _)
      | (with_reducible refine LeO.ite ?_ ?_)
      | (with_reducible refine LeO.bind ?_ (fun _ => ?_))
      | exact ih0 _ _ _
      | exact LeO.none _
      | refine LeO.ite ?_ ?_
      | refine LeO.bind ?_ (fun _ => ?_)
theorem laws_toIntS.mono : ∀ a0 k, LeO (laws_toIntS.f k a0) (laws_toIntS.f (k + 1) a0) := by
  intro a0 k
  have ih0 := laws_toIntS.mono_l k
  unfold laws_toIntS.f
  repeat' first
      | (with_reducible exact ih0 _ _ _)
      | (with_reducible exact LeO.refl _)
      | (with_reducible exact LeO.none _)
      | (with_reducible refine LeO.ite ?_ ?_)
      | (with_reducible refine LeO.bind ?_ (fun _ => ?_))
      | exact ih0 _ _ _
      | exact LeO.none _
      | refine LeO.ite ?_ ?_
      | refine LeO.bind ?_ (fun _ => ?_)
set_option maxHeartbeats 8000000 in
set_option maxRecDepth 100000 in
theorem laws_toIntS.calls (k : Nat) (A0 : Option Addr) (c0 : Nat) (l0 : List Int) (r : List Int) (w : World) (hr0 : Kd.C (Kd.int .i64) w A0 l0.length l0) (hc0 : l0.length ≤ c0) (h : laws_toIntS.f k l0 = some r) :
  Calls Try.prog 54 #[.slice A0 l0.length c0] w fun e w' => ∃ v0_ : Value, e = .returned (v0_) ∧ Kd.R (Kd.int .i64) 3 w' w.heap.size (fun _ => True) v0_ r ∧ Below w.heap.size w w' := by
 have HR0 := am_ hr0
 have HC0 := am_ hc0
 clear hr0 hc0
 have HB := am_ (Below.refl w.heap.size w)
 have H : (if 0 ≤ (l0.length : Int) then (if ((l0.length : Int) : Int).toNat ≤ 35184372088832 then (laws_toIntS.l0 k l0 (List.replicate ((l0.length : Int) : Int).toNat 0) 0) else (none)) else (none)) = some r := h
 clear h
 by_cases c2 : 0 ≤ (l0.length : Int)
 ·rw [if_pos c2] at H
  have c2b0 := eq_true c2
  have c2b1 : decide (0 ≤ (l0.length : Int)) = true := decide_eq_true c2
  clear c2
  by_cases c3 : ((l0.length : Int) : Int).toNat ≤ 35184372088832
  ·rw [if_pos c3] at H
   have c3b0 := eq_true c3
   have c3b1 : decide (((l0.length : Int) : Int).toNat ≤ 35184372088832) = true := decide_eq_true c3
   clear c3
   obtain ⟨y1068, hy1068⟩ : ∃ y_ : List Int, y_ = (List.replicate ((l0.length : Int) : Int).toNat 0) := ⟨_, rfl⟩
   replace H : (laws_toIntS.l0 k l0 y1068 0) = some r := by first | (rw [hy1068]; with_reducible exact H) | (have H2_ := (Option.bind_some _ _).symm.trans H; rw [hy1068]; with_reducible exact H2_) | (have H2_ := (Option.bind_some _ _).symm.trans H; with_reducible exact H2_) | with_reducible exact H | (rw [hy1068]; exact H) | exact H
   have Ny1068 := am_ hy1068
   clear hy1068
   have H' := am_ H
   clear H
   go_enter Try.func54, Try.ntmps54
   go_wp2_with (first | ((with_reducible refine gate_dst (N := 7) rfl ?_); refine Kd.R_make (Kd.int .i64) _ 3 rfl (N := 7) rfl 22 _ _ rfl (l0.length : Int) rfl rfl Try.underlying22 (.int .i64 0) 8 info3 rfl (by decide) (by omega) 0 (ok := fun _ => True) (okp := fun _ => True) rfl (fun _ hk => hk) trivial (of_decide_eq_true z54_1) (Nat.le_trans (Nat.mul_le_mul_right _ (of_decide_eq_true z54_1 : (l0.length : Int).toNat ≤ 35184372088832)) (by omega)) (Below.refl _ _) (Nat.le_refl _) ?_; intro v1069 w4 ho5 hb hg_ hnew_; clear hg_ hnew_; (first | rw [← Ny1068.out] at ho5 | (simp only [Int.reduceToNat] at ho5; rw [← Ny1068.out] at ho5)); have n0_ := am_ (Kd.R_lower ho5 (below_size z54_2)); have n1_ := am_ (below_step z54_2 hb); clear HB; have HO1070 := n0_; have HB := n1_; clear n0_ n1_; clear hb ho5))
   go_loopg [4] k (fun kq v4 w' => ∃ (x3_1 : List Int) (x4_1 : Int), v4 = .int .i64 x4_1 ∧ Aside0 (laws_toIntS.l0 kq l0 x3_1 x4_1 = some r) ∧ Aside0 (kq ≤ k) ∧ Aside0 (Kd.R (Kd.int .i64) 3 w' w.heap.size (fun _ => True) v1069 x3_1) ∧ Aside0 (Below w.heap.size w w'))
   case atStart => exact ⟨(y1068), (0), (by first | rfl | (simp; done) | (simp [*]; done)), H', ⟨Nat.le_refl _⟩, ⟨ru HO1070.out⟩, ⟨z54_2⟩⟩
   case round =>
    clear H'
    obtain ⟨x3_1, x4_1, rfl, HA, HK1, HO_3, HB⟩ := hrel
    cases gk with
    | zero => exact absurd HA.out (by simp [laws_toIntS.l0])
    | succ k1 =>
     have H := HA.out
     clear HA
     simp only [laws_toIntS.l0] at H
     by_cases c6 : x4_1 < (l0.length : Int)
     ·rw [if_pos c6] at H
      have c6b0 : decide (x4_1 < (l0.length : Int)) = true := decide_eq_true c6
      clear c6
      by_cases c7 : 0 ≤ x4_1
      ·rw [if_pos c7] at H
       have c7b0 : decide (0 ≤ x4_1) = true := decide_eq_true c7
       clear c7
       by_cases c8 : x4_1 < (x3_1.length : Int)
       ·rw [if_pos c8] at H
        have c8b0 : decide (x4_1 < (x3_1.length : Int)) = true := decide_eq_true c8
        clear c8
        obtain ⟨y1072, hy1072⟩ : ∃ y_ : List Int, y_ = (x3_1.set (x4_1 : Int).toNat (rd l0 x4_1)) := ⟨_, rfl⟩
        replace H : (laws_toIntS.l0 k1 l0 y1072 (wrap64 (x4_1 + 1))) = some r := by first | (rw [hy1072]; with_reducible exact H) | (have H2_ := (Option.bind_some _ _).symm.trans H; rw [hy1072]; with_reducible exact H2_) | (have H2_ := (Option.bind_some _ _).symm.trans H; with_reducible exact H2_) | with_reducible exact H | (rw [hy1072]; exact H) | exact H
        have Ny1072 := am_ hy1072
        clear hy1072
        have H' := am_ H
        clear H
        have p1071 : 0 ≤ (x4_1 : Int) := of_decide_eq_true z54_1
        have q1071 : x4_1 < (l0.length : Int) := of_decide_eq_true z54_1
        obtain ⟨ad1071, e1071, hx1071_0⟩ := Kd.at_int HR0.out x4_1 p1071 q1071
        cases e1071
        replace hx1071_0 := (HB.out.cell (World.block_lt_of_cell? w _ hx1071_0)).trans hx1071_0
        replace p1071 := eq_true p1071
        replace q1071 := eq_true q1071
        have p9 : 0 ≤ (x4_1 : Int) := of_decide_eq_true z54_1
        have q9 : (x4_1 : Int) < ((x3_1.length : Int) : Int) := of_decide_eq_true z54_1
        obtain ⟨go9, co9, eo9, gb9, gl9, cl9, HG9⟩ := Kd.R_form HO_3.out (by omega)
        (first | cases eo9 | (injection eo9 with ea_ en_ ec_; (first | subst ea_ | (injection ea_ with ea_; subst ea_)); subst ec_; clear en_))
        have GB9 := am_ gb9
        have GG9 := am_ HG9
        clear gb9 gl9 HG9
        obtain ⟨hx9_0, hf9_0⟩ := Kd.R_celln 0 HO_3.out (x4_1 : Int) p9 q9
        replace p9 := eq_true p9
        replace q9 := eq_true q9
        have HP10 := Kd.R_putg HO_3.out (x4_1 : Int) (rd l0 x4_1)
        go_wp2_with (first | ((with_reducible refine gate_store (t := 3) (p := 20) rfl ?_); refine store_event (t := 3) (p := 20) (v := ?vo_w11) (w1 := (wr.setCell ⟨go9, (x4_1 : Int).toNat, none⟩ (.int .i64 (rd l0 x4_1)))) ?hg ?ho ?hn ?hr ?_; (case ho => rfl); (case hg => rfl); (case hn => rfl); (case hr => first | (go_simp; done) | (go_simp; rfl)); intro w11 hw; have hg : wr.grownBy w11 (some go9) := (by rw [hw]; exact HP10.2); have hp_ : Kd.R (Kd.int .i64) 3 w11 w.heap.size (fun _ => True) (.slice (some ⟨go9, 0, none⟩) x3_1.length co9) y1072 := (by rw [hw, Ny1072.out]; exact HP10.1); clear HP10; have n0_ := am_ (hp_); have n1_ := am_ (by rw [hw]; exact below_set (HB.out) GB9.out : Below w.heap.size w w11); clear HO_3 HB; have HO_3 := n0_; have HB := n1_; clear n0_ n1_; clear hg hw hp_))
        go_roundg k1
        case measure => have := HK1.out; omega
        case rel => exact ⟨(y1072), (wrap64 (x4_1 + 1)), (by first | rfl | (simp; done) | (simp [*]; done)), H', ⟨by have := HK1.out; omega⟩, ⟨ru HO_3.out⟩, ⟨z54_2⟩⟩
       ·rw [if_neg c8] at H
        exact absurd H (by simp)
      ·rw [if_neg c7] at H
       exact absurd H (by simp)
     ·rw [if_neg c6] at H
      have c6b0 : decide (x4_1 < (l0.length : Int)) = false := decide_eq_false c6
      clear c6
      obtain rfl := Option.some.inj H
      go_wp2
      go_ret
      exact ⟨_, by first | rfl | (simp [errW_none, errW_some] <;> rfl) | (simp [*, errW_none, errW_some] <;> rfl), ru HO_3.out, z54_2⟩
  ·rw [if_neg c3] at H
   exact absurd H (by simp)
 ·rw [if_neg c2] at H
  exact absurd H (by simp)

end Go.Proofs.Ytefkbmhkhpekjaa.PB

namespace Go.Proofs.Ytefkbmhkhpekjaa.PB
open Go.RowKit Go.Proofs.YtefkbmhkhpekjaaW.PrintWords Go.Proofs.YtefkbmhkhpekjaaW.PrintLast Go.Proofs.YtefkbmhkhpekjaaW.PrintMore
attribute [local go_sem] max2_int min2_int max_two min_two max_three min_three max_four min_four   -- for this text's walks alone
open Go.Proofs.YtefkbmhkhpekjaaMine
set_option linter.unusedVariables false
set_option linter.unusedSimpArgs false

theorem z55_1 {p : Prop} (h : p := by first | rfl | (simp; done) | (simp [*]; done)) : p := h
theorem z55_2 {p : Prop} (h : p := by first | (with_reducible assumption) | assumption) : p := h
theorem z55_3 {p : Prop} (h : p := by repeat (first | exact Drawn0.refl _ | apply Drawn0.step)) : p := h
/-! ### laws_eqIntS: function 55 -/
def laws_eqIntS.l0 : Nat → List Int → List Int → Int → Option (Bool)
  | 0, _, _, _ => none
  | k + 1, x0, x1, x5 => if x5 < (x0.length : Int) then (if 0 ≤ x5 then (if x5 < (x1.length : Int) then (if (rd x0 x5) = (rd x1 x5) then (laws_eqIntS.l0 k x0 x1 (wrap64 (x5 + 1))) else (some false)) else (none)) else (none)) else (some true)
def laws_eqIntS.f (k : Nat) (l0 : List Int) (l1 : List Int) : Option (Bool) := if (l0.length : Int) = (l1.length : Int) then (laws_eqIntS.l0 k l0 l1 0) else (some false)
theorem laws_eqIntS.mono_l : ∀ k, (∀ y0 y1 y2, LeO (laws_eqIntS.l0 k y0 y1 y2) (laws_eqIntS.l0 (k + 1) y0 y1 y2))
  | 0 => fun _ _ _ r h => by simp [laws_eqIntS.l0] at h
  | k + 1 => by
    have ih0 := laws_eqIntS.mono_l k
    · intro y0 y1 y2
      unfold laws_eqIntS.l0
      repeat' first
      | (with_reducible exact ih0 _ _ _)
      | (with_reducible exact LeO.refl _)
      | (with_reducible exact LeO.none _)
      | (with_reducible refine LeO.ite ?_ ?_)
      | (with_reducible refine LeO.bind ?_ (fun _ => ?_))
      | exact ih0 _ _ _
      | exact LeO.none _
      | refine LeO.ite ?_ ?_
      | refine LeO.bind ?_ (fun _ => ?_)
theorem laws_eqIntS.mono : ∀ a0 a1 k, LeO (laws_eqIntS.f k a0 a1) (laws_eqIntS.f (k + 1) a0 a1) := by
  intro a0 a1 k
  have ih0 := laws_eqIntS.mono_l k
  unfold laws_eqIntS.f
  repeat' first
      | (with_reducible exact ih0 _ _ _)
      | (with_reducible exact LeO.refl _)
      | (with_reducible exact LeO.none _)
      | (with_reducible refine LeO.ite ?_ ?_)
      | (with_reducible refine LeO.bind ?_ (fun _ => ?_))
      | exact ih0 _ _ _
      | exact LeO.none _
      | refine LeO.ite ?_ ?_
      | refine LeO.bind ?_ (fun _ => ?_)
set_option maxHeartbeats 8000000 in
set_option maxRecDepth 100000 in
theorem laws_eqIntS.calls (k : Nat) (A0 : Option Addr) (c0 : Nat) (l0 : List Int) (A1 : Option Addr) (c1 : Nat) (l1 : List Int) (r : Bool) (w : World) (hr0 : Kd.C (Kd.int .i64) w A0 l0.length l0) (hc0 : l0.length ≤ c0) (hr1 : Kd.C (Kd.int .i64) w A1 l1.length l1) (hc1 : l1.length ≤ c1) (h : laws_eqIntS.f k l0 l1 = some r) :
  Calls Try.prog 55 #[.slice A0 l0.length c0, .slice A1 l1.length c1] w fun e w' => e = .returned (.bool r) ∧ Drawn0 w w' := by
 have HR0 := am_ hr0
 have HC0 := am_ hc0
 clear hr0 hc0
 have HR1 := am_ hr1
 have HC1 := am_ hc1
 clear hr1 hc1
 have H : (if (l0.length : Int) = (l1.length : Int) then (laws_eqIntS.l0 k l0 l1 0) else (some false)) = some r := h
 clear h
 by_cases c3 : (l0.length : Int) = (l1.length : Int)
 ·rw [if_pos c3] at H
  have c3b0 : ((l0.length : Int) == (l1.length : Int)) = true := beq_iff_eq.mpr c3
  have c3b1 : ((l0.length : Int) != (l1.length : Int)) = false := bne_eq_false_iff_eq.mpr c3
  have c3b2 : (l0.length == l1.length) = true := by first | simpa using c3 | (simp at c3 ⊢; omega)
  clear c3
  have H' := am_ H
  clear H
  go_enter Try.func55, Try.ntmps55
  go_wp2
  repeat (go_quiet (fail); try go_wp2)
  go_loopg [5] k (fun kq v5 w' => ∃ (x5_1 : Int), v5 = .int .i64 x5_1 ∧ Aside0 (laws_eqIntS.l0 kq l0 l1 x5_1 = some r) ∧ Aside0 (kq ≤ k) ∧ Drawn0 w w')
  case atStart => exact ⟨(0), z55_1, H', ⟨Nat.le_refl _⟩, z55_3⟩
  case round =>
   clear H'
   obtain ⟨x5_1, rfl, HA, HK1, ⟨m1, rfl⟩⟩ := hrel
   cases gk with
   | zero => exact absurd HA.out (by simp [laws_eqIntS.l0])
   | succ k1 =>
    have H := HA.out
    clear HA
    simp only [laws_eqIntS.l0] at H
    by_cases c4 : x5_1 < (l0.length : Int)
    ·rw [if_pos c4] at H
     have c4b0 : decide (x5_1 < (l0.length : Int)) = true := decide_eq_true c4
     clear c4
     by_cases c5 : 0 ≤ x5_1
     ·rw [if_pos c5] at H
      have c5b0 : decide (0 ≤ x5_1) = true := decide_eq_true c5
      clear c5
      by_cases c6 : x5_1 < (l1.length : Int)
      ·rw [if_pos c6] at H
       have c6b0 : decide (x5_1 < (l1.length : Int)) = true := decide_eq_true c6
       clear c6
       by_cases c7 : (rd l0 x5_1) = (rd l1 x5_1)
       ·rw [if_pos c7] at H
        have c7b0 : ((rd l0 x5_1) == (rd l1 x5_1)) = true := beq_iff_eq.mpr c7
        have c7b1 : ((rd l0 x5_1) != (rd l1 x5_1)) = false := bne_eq_false_iff_eq.mpr c7
        clear c7
        have H' := am_ H
        clear H
        have p132 : 0 ≤ (x5_1 : Int) := of_decide_eq_true z55_2
        have q132 : x5_1 < (l0.length : Int) := of_decide_eq_true z55_2
        obtain ⟨ad132, e132, hx132_0⟩ := Kd.at_int HR0.out x5_1 p132 q132
        cases e132
        replace p132 := eq_true p132
        replace q132 := eq_true q132
        have p133 : 0 ≤ (x5_1 : Int) := of_decide_eq_true z55_2
        have q133 : x5_1 < (l1.length : Int) := of_decide_eq_true z55_2
        obtain ⟨ad133, e133, hx133_0⟩ := Kd.at_int HR1.out x5_1 p133 q133
        cases e133
        replace p133 := eq_true p133
        replace q133 := eq_true q133
        go_wp2
        repeat (go_quiet (fail); try go_wp2)
        go_roundg k1
        case measure => have := HK1.out; omega
        case rel => exact ⟨(wrap64 (x5_1 + 1)), z55_1, H', ⟨by have := HK1.out; omega⟩, z55_3⟩
       ·rw [if_neg c7] at H
        have c7b0 : ((rd l0 x5_1) == (rd l1 x5_1)) = false := beq_eq_false_iff_ne.mpr c7
        have c7b1 : ((rd l0 x5_1) != (rd l1 x5_1)) = true := bne_iff_ne.mpr c7
        obtain rfl := Option.some.inj H
        have p132 : 0 ≤ (x5_1 : Int) := of_decide_eq_true z55_2
        have q132 : x5_1 < (l0.length : Int) := of_decide_eq_true z55_2
        obtain ⟨ad132, e132, hx132_0⟩ := Kd.at_int HR0.out x5_1 p132 q132
        cases e132
        replace p132 := eq_true p132
        replace q132 := eq_true q132
        have p133 : 0 ≤ (x5_1 : Int) := of_decide_eq_true z55_2
        have q133 : x5_1 < (l1.length : Int) := of_decide_eq_true z55_2
        obtain ⟨ad133, e133, hx133_0⟩ := Kd.at_int HR1.out x5_1 p133 q133
        cases e133
        replace p133 := eq_true p133
        replace q133 := eq_true q133
        go_wp2
        repeat (go_quiet (fail); try go_wp2)
        go_ret
        exact ⟨z55_1, z55_3⟩
      ·rw [if_neg c6] at H
       exact absurd H (by simp)
     ·rw [if_neg c5] at H
      exact absurd H (by simp)
    ·rw [if_neg c4] at H
     have c4b0 : decide (x5_1 < (l0.length : Int)) = false := decide_eq_false c4
     clear c4
     obtain rfl := Option.some.inj H
     go_wp2
     repeat (go_quiet (fail); try go_wp2)
     go_ret
     exact ⟨z55_1, z55_3⟩
 ·rw [if_neg c3] at H
  have c3b0 : ((l0.length : Int) == (l1.length : Int)) = false := beq_eq_false_iff_ne.mpr c3
  have c3b1 : ((l0.length : Int) != (l1.length : Int)) = true := bne_iff_ne.mpr c3
  have c3b2 : (l0.length == l1.length) = false := by first | simpa using c3 | (simp at c3 ⊢; omega)
  obtain rfl := Option.some.inj H
  go_enter Try.func55, Try.ntmps55
  go_wp2
  repeat (go_quiet (fail); try go_wp2)
  go_ret
  exact ⟨z55_1, z55_3⟩

end Go.Proofs.Ytefkbmhkhpekjaa.PB

namespace Go.Proofs.Ytefkbmhkhpekjaa.PB
open Go.RowKit Go.Proofs.YtefkbmhkhpekjaaW.PrintWords Go.Proofs.YtefkbmhkhpekjaaW.PrintLast Go.Proofs.YtefkbmhkhpekjaaW.PrintMore
attribute [local go_sem] max2_int min2_int max_two min_two max_three min_three max_four min_four   -- for this text's walks alone
open Go.Proofs.YtefkbmhkhpekjaaMine
set_option linter.unusedVariables false
set_option linter.unusedSimpArgs false

theorem z56_1 {p : Prop} (h : p := by first | rfl | (simp; done) | (simp [*]; done)) : p := h
theorem z56_2 {p : Prop} (h : p := by repeat (first | (with_reducible first | exact HK.out | apply Kept.alloc | apply Kept.drewN | apply Kept.drew) | exact HK.out)) : p := h
theorem z56_3 {p : Prop} (h : p := by repeat (first | (with_reducible first | exact HB.out | apply below_alloc | apply pw_below_drewN | apply below_drew1) | exact HB.out)) : p := h
/-! ### laws_markIntS: function 56 -/
def laws_markIntS.l0 : Nat → List Int → Int → Int → Option (Int × List Int)
  | 0, _, _, _ => none
  | k + 1, x0, x1, x5 => if x5 < (x0.length : Int) then (if 0 ≤ x5 then (laws_markIntS.l0 k (x0.set (x5 : Int).toNat x1) (wrap64 (x1 + 1)) (wrap64 (x5 + 1))) else (none)) else (some (x1, x0))
def laws_markIntS.f (k : Nat) (l0 : List Int) (a1 : Int) : Option (Int × List Int) := laws_markIntS.l0 k l0 a1 0
theorem laws_markIntS.mono_l : ∀ k, (∀ y0 y1 y2, LeO (laws_markIntS.l0 k y0 y1 y2) (laws_markIntS.l0 (k + 1) y0 y1 y2))
  | 0 => fun _ _ _ r h => by simp [laws_markIntS.l0] at h
  | k + 1 => by
    have ih0 := laws_markIntS.mono_l k
    · intro y0 y1 y2
      unfold laws_markIntS.l0
      repeat' first
      | (with_reducible exact ih0 _ _ _)
      | (with_reducible exact LeO.refl _)
      | (with_reducible exact LeO.none _)
      | (with_reducible refine LeO.ite ?_ ?_)
      | (with_reducible refine LeO.bind ?_ (fun _ => ?_))
      | exact ih0 _ _ _
      | exact LeO.none _
      | refine LeO.ite ?_ ?_
      | refine LeO.bind ?_ (fun _ => ?_)
theorem laws_markIntS.mono : ∀ a0 a1 k, LeO (laws_markIntS.f k a0 a1) (laws_markIntS.f (k + 1) a0 a1) := by
  intro a0 a1 k
  have ih0 := laws_markIntS.mono_l k
  unfold laws_markIntS.f
  repeat' first
      | (with_reducible exact ih0 _ _ _)
      | (with_reducible exact LeO.refl _)
      | (with_reducible exact LeO.none _)
      | (with_reducible refine LeO.ite ?_ ?_)
      | (with_reducible refine LeO.bind ?_ (fun _ => ?_))
      | exact ih0 _ _ _
      | exact LeO.none _
      | refine LeO.ite ?_ ?_
      | refine LeO.bind ?_ (fun _ => ?_)
set_option maxHeartbeats 8000000 in
set_option maxRecDepth 100000 in
theorem laws_markIntS.calls (k : Nat) (P0_ : Nat → Prop) (u9000_ : Value) (l0 : List Int) (a1 : Int) (r1 : Int) (r2 : List Int) (w0 w : World) (hB : Below w0.heap.size w0 w) (ho0 : Kd.R (Kd.int .i64) 3 w w0.heap.size P0_ u9000_ l0) (h : laws_markIntS.f k l0 a1 = some (r1, r2)) :
  Calls Try.prog 56 #[u9000_, .int .i64 a1] w fun e w' => e = .returned (.int .i64 r1) ∧ Kd.R (Kd.int .i64) 3 w' w0.heap.size (fun k_ => (P0_ k_ ∨ w.heap.size ≤ k_)) u9000_ r2 ∧ Below w0.heap.size w0 w' ∧ Kept w w' (fun k_ => P0_ k_) := by
 have HO0 := am_ (show Kd.R (Kd.int .i64) 3 w w0.heap.size (fun k_ => (P0_ k_ ∨ w.heap.size ≤ k_)) u9000_ l0 from Kd.R_mono ho0 (fun k_ hk => (.inl hk)))
 have HK := am_ (Kept.refl w (fun k_ => P0_ k_))
 have HW0 := am_ hB.size
 have HB := am_ hB
 clear hB
 have H : (laws_markIntS.l0 k l0 a1 0) = some (r1, r2) := h
 clear h
 have H' := am_ H
 clear H
 go_enter Try.func56, Try.ntmps56
 go_wp2
 go_loopg [1, 5] k (fun kq v1 v5 w' => ∃ (x0_1 : List Int) (x1_1 : Int) (x5_1 : Int), v1 = .int .i64 x1_1 ∧ v5 = .int .i64 x5_1 ∧ Aside0 (laws_markIntS.l0 kq x0_1 x1_1 x5_1 = some (r1, r2)) ∧ Aside0 (kq ≤ k) ∧ Aside0 (Kd.R (Kd.int .i64) 3 w' w0.heap.size (fun k_ => (P0_ k_ ∨ w.heap.size ≤ k_)) u9000_ x0_1) ∧ Aside0 (Kept w w' (fun k_ => P0_ k_)) ∧ Aside0 (Below w0.heap.size w0 w'))
 case atStart => exact ⟨(l0), (a1), (0), z56_1, z56_1, H', ⟨Nat.le_refl _⟩, ⟨ru HO0.out⟩, ⟨z56_2⟩, ⟨z56_3⟩⟩
 case round =>
  clear H'
  obtain ⟨x0_1, x1_1, x5_1, rfl, rfl, HA, HK1, HO_0, HK, HB⟩ := hrel
  cases gk with
  | zero => exact absurd HA.out (by simp [laws_markIntS.l0])
  | succ k1 =>
   have H := HA.out
   clear HA
   simp only [laws_markIntS.l0] at H
   by_cases c3 : x5_1 < (x0_1.length : Int)
   ·rw [if_pos c3] at H
    have c3b0 : decide (x5_1 < (x0_1.length : Int)) = true := decide_eq_true c3
    clear c3
    by_cases c4 : 0 ≤ x5_1
    ·rw [if_pos c4] at H
     have c4b0 : decide (0 ≤ x5_1) = true := decide_eq_true c4
     clear c4
     obtain ⟨y138, hy138⟩ : ∃ y_ : List Int, y_ = (x0_1.set (x5_1 : Int).toNat x1_1) := ⟨_, rfl⟩
     replace H : (laws_markIntS.l0 k1 y138 (wrap64 (x1_1 + 1)) (wrap64 (x5_1 + 1))) = some (r1, r2) := by first | (rw [hy138]; with_reducible exact H) | (have H2_ := (Option.bind_some _ _).symm.trans H; rw [hy138]; with_reducible exact H2_) | (have H2_ := (Option.bind_some _ _).symm.trans H; with_reducible exact H2_) | with_reducible exact H | (rw [hy138]; exact H) | exact H
     have Ny138 := am_ hy138
     clear hy138
     have H' := am_ H
     clear H
     obtain ⟨Ao6, co6, eo6⟩ := Kd.R_slice HO_0.out
     subst eo6
     have p5 : 0 ≤ (x5_1 : Int) := of_decide_eq_true (by first | (with_reducible assumption) | assumption)
     have q5 : (x5_1 : Int) < ((x0_1.length : Int) : Int) := of_decide_eq_true (by first | (with_reducible assumption) | assumption)
     obtain ⟨go5, co5, eo5, gb5, gl5, cl5, HG5⟩ := Kd.R_form HO_0.out (by omega)
     (first | cases eo5 | (injection eo5 with ea_ en_ ec_; (first | subst ea_ | (injection ea_ with ea_; subst ea_)); subst ec_; clear en_))
     have GB5 := am_ gb5
     have GG5 := am_ HG5
     clear gb5 gl5 HG5
     have HMgo5 := am_ (show (P0_ go5 ∨ w.heap.size ≤ go5) from (HO_0.out.1 _ rfl))
     obtain ⟨hx5_0, hf5_0⟩ := Kd.R_celln 0 HO_0.out (x5_1 : Int) p5 q5
     replace p5 := eq_true p5
     replace q5 := eq_true q5
     have HP7 := Kd.R_putg HO_0.out (x5_1 : Int) x1_1
     go_wp2_with (first | ((with_reducible refine gate_store (t := 3) (p := 15) rfl ?_); refine store_event (t := 3) (p := 15) (v := ?vo_w8) (w1 := (wr.setCell ⟨go5, (x5_1 : Int).toNat, none⟩ (.int .i64 x1_1))) ?hg ?ho ?hn ?hr ?_; (case ho => rfl); (case hg => rfl); (case hn => rfl); (case hr => first | (go_simp; done) | (go_simp; rfl)); intro w8 hw; have hg : wr.grownBy w8 (some go5) := (by rw [hw]; exact HP7.2); have hp_ : Kd.R (Kd.int .i64) 3 w8 w0.heap.size (fun k_ => (P0_ k_ ∨ w.heap.size ≤ k_)) (.slice (some ⟨go5, 0, none⟩) x0_1.length co6) y138 := (by rw [hw, Ny138.out]; exact HP7.1); clear HP7; have n0_ := am_ (hp_); have n1_ := am_ (by rw [hw]; exact below_set (HB.out) GB5.out : Below w0.heap.size w0 w8); have n2_ := am_ (Kept.of_grown (S := (fun k_ => P0_ k_)) hg z56_2 (fun k_ e_ => (HO_0.out.1 k_ e_))); clear HO_0 HB HK; have HO_0 := n0_; have HB := n1_; have HK := n2_; clear n0_ n1_ n2_; clear hg hw hp_))
     go_roundg k1
     case measure => have := HK1.out; omega
     case rel => exact ⟨(y138), (wrap64 (x1_1 + 1)), (wrap64 (x5_1 + 1)), z56_1, z56_1, H', ⟨by have := HK1.out; omega⟩, ⟨ru HO_0.out⟩, ⟨z56_2⟩, ⟨z56_3⟩⟩
    ·rw [if_neg c4] at H
     exact absurd H (by simp)
   ·rw [if_neg c3] at H
    have c3b0 : decide (x5_1 < (x0_1.length : Int)) = false := decide_eq_false c3
    clear c3
    simp only [Option.some.injEq, Prod.mk.injEq] at H
    obtain ⟨rfl, rfl⟩ := H
    obtain ⟨Ao9, co9, eo9⟩ := Kd.R_slice HO_0.out
    subst eo9
    go_wp2
    go_ret
    exact ⟨by first | rfl | (simp [errW_none, errW_some] <;> rfl) | (simp [*, errW_none, errW_some] <;> rfl), ru HO_0.out, z56_3, z56_2⟩

end Go.Proofs.Ytefkbmhkhpekjaa.PB

namespace Go.Proofs.Ytefkbmhkhpekjaa.PB
open Go.RowKit Go.Proofs.YtefkbmhkhpekjaaW.PrintWords Go.Proofs.YtefkbmhkhpekjaaW.PrintLast Go.Proofs.YtefkbmhkhpekjaaW.PrintMore
attribute [local go_sem] max2_int min2_int max_two min_two max_three min_three max_four min_four   -- for this text's walks alone
open Go.Proofs.YtefkbmhkhpekjaaMine
set_option linter.unusedVariables false
set_option linter.unusedSimpArgs false

/-! ### laws_FnExactTurnThreads: function 15 -/
def laws_FnExactTurnThreads.T13 : Bool × List (List Nat × List Nat) := (true, [([], []), ([], []), ([1], [1]), ([0, 2, 2], [0, 2]), ([3], [3])])
def laws_FnExactTurnThreads.B13 : List Nat := [0, 0, 2, 7, 15]
theorem laws_FnExactTurnThreads.tab13 : rtab .any (opsOf Try.f15 13) = laws_FnExactTurnThreads.T13 := by kernel_rfl
theorem laws_FnExactTurnThreads.bits13 : waitsOk laws_FnExactTurnThreads.T13.2 laws_FnExactTurnThreads.B13 = true := by kernel_rfl
def laws_FnExactTurnThreads.Facts (k : Nat) (l : List (List S130)) (rw : List Int) (p want p1 w2 : List (List S85)) (r2 : List Int) (told : Bool) (left k1 k2 m : Int) : Prop := laws_szProg.f k l 1048576 = some left ∧ (left < 0 ∨ laws_toProg.f k l = some p ∧ laws_toIntS.f k rw = some rw ∧ spec_TurnThreads.f k p rw = some (want, told) ∧ impl_TurnThreads.f k p rw = some (want, told) ∧ laws_eqProg.f k want want = some true ∧ laws_eqProg.f k p p = some true ∧ laws_eqIntS.f k rw rw = some true ∧ laws_markDoSS.f k p 1 = some (k1, p1) ∧ laws_markIntS.f k rw k1 = some (k2, r2) ∧ 0 ≤ k2 ∧ laws_markDoSS.f k want 1 = some (m, w2) ∧ 0 ≤ m ∧ laws_heldProg.f k w2 1 = some m)
set_option maxRecDepth 100000 in
set_option maxHeartbeats 8000000 in
theorem laws_FnExactTurnThreads.calls (k : Nat) (A0 : Option Addr) (c0 : Nat) (l : List (List S130)) (A1 : Option Addr) (c1 : Nat) (rw : List Int) (w : World) (p want p1 w2 : List (List S85)) (r2 : List Int) (told : Bool) (left k1 k2 m : Int) (hr0 : Kd.C (Kd.slice 130 k130) w A0 l.length l) (hc0 : l.length ≤ c0) (hr1 : Kd.C (Kd.int .i64) w A1 rw.length rw) (hc1 : rw.length ≤ c1) (h : (rw.length : Int) > 1048576 ∨ laws_FnExactTurnThreads.Facts k l rw p want p1 w2 r2 told left k1 k2 m) :
  Calls Try.prog 15 #[.agg #[.slice A0 l.length c0], .slice A1 rw.length c1] w fun e w' => e = .returned (.bool true) ∧ Below w.heap.size w w' := by
 have CL := am_ hr0
 have LL := am_ hc0
 have CR := am_ hr1
 have LR := am_ hc1
 have FF := am_ h
 clear hr0 hc0 hr1 hc1 h
 have BLa := am_ (heap_alloc_new w (Obj.cells #[Value.slice A0 l.length c0] 52))
 have HBa := am_ (below_alloc (Below.refl w.heap.size w) (Obj.cells #[Value.slice A0 l.length c0] 52))
 by_cases hl : (rw.length : Int) > 1048576
 ·have hlb : decide (1048576 < (rw.length : Int)) = true := decide_eq_true hl
  clear FF
  go_enter Try.func15, Try.ntmps15
  go_wp2_with fail
  refine bodyPost_ret (results_tmp rfl _ _ _) rfl ?_
  exact ⟨rfl, HBa.out⟩
 have hlb : decide (1048576 < (rw.length : Int)) = false := decide_eq_false hl
 have h := FF.out.resolve_left hl
 clear FF hl
 unfold laws_FnExactTurnThreads.Facts at h
 obtain ⟨h1, h2⟩ := h
 have F1 := am_ h1
 have FF := am_ h2
 clear h1 h2
 go_enter Try.func15, Try.ntmps15
 go_wp2_with (go_at_call 44; refine park ?_)
 clear hlb
 refine ⟨?_⟩
 refine (laws_szProg.calls k _ _ l 1048576 left _ (Kd.C_below CL.out HBa.out) LL.out F1.out).mono ?_
 rintro e W1 ⟨rfl, hb⟩
 have BL_0 := am_ (blk_below BLa.out hb)
 have HB_0 := am_ (below_then HBa.out HBa.out.size hb)
 clear hb HBa BLa
 by_cases hlt : left < 0
 ·have hlb := decide_eq_true hlt
  clear FF
  go_wp2_with fail
  refine bodyPost_ret (results_tmp rfl _ _ _) rfl ?_
  exact ⟨rfl, HB_0.out⟩
 have hlb := decide_eq_false hlt
 obtain ⟨f_to, f_toi, f_sp, f_im, f_eqw, f_eqp, f_eqi, f_mk, f_mki, f_k2, f_mkw, f_m0, f_held⟩ := FF.out.resolve_left hlt
 have Gto := am_ f_to
 have Gtoi := am_ f_toi
 have Gsp := am_ f_sp
 have Gim := am_ f_im
 have Geqw := am_ f_eqw
 have Geqp := am_ f_eqp
 have Geqi := am_ f_eqi
 have Gmk := am_ f_mk
 have Gmki := am_ f_mki
 have Gk2 := am_ f_k2
 have Gmkw := am_ f_mkw
 have Gm0 := am_ f_m0
 have Gheld := am_ f_held
 clear FF f_to f_toi f_sp f_im f_eqw f_eqp f_eqi f_mk f_mki f_k2 f_mkw f_m0 f_held
 have LT1 := am_ (show w.heap.size < W1.heap.size from blk_lt BL_0.out)
 have QW1 := am_ (show w.heap.size ≤ W1.heap.size from HB_0.out.size)
 have htt : (told != told) = false := by cases told <;> rfl
 have hl0 : W1.cell? ⟨w.heap.size, 0, none⟩ = some (.slice A0 l.length c0) := (blk_cell BL_0.out 0).trans rfl
 go_wp2_with (go_at_call 45; refine park ?_)
 clear hl0
 refine ⟨?_⟩
 refine (laws_toProg.calls k _ _ l p _ (Kd.C_below CL.out HB_0.out) LL.out Gto.out).mono ?_
 rintro e V1 ⟨vt, rfl, hS, hb⟩
 obtain ⟨At, ct, rfl⟩ := Kd.S_slice hS
 have BL_1 := am_ (blk_below BL_0.out hb)
 have HB_1 := am_ (below_then HB_0.out HB_0.out.size hb)
 clear BL_0 HB_0
 have Rt_n := am_ (Kd.S_lower (Kd.S_mono (ok' := fun j => W1.heap.size ≤ j ∧ j < V1.heap.size) (Kd.S_bound hS) (fun j hj => ⟨hj.2.1, hj.2.2.1⟩)) (show w.heap.size ≤ W1.heap.size from QW1.out))
 have QV1 := am_ (show w.heap.size ≤ V1.heap.size from HB_1.out.size)
 have ZV1 := am_ (show W1.heap.size ≤ V1.heap.size from hb.size)
 clear hS hb
 go_wp2_with (go_at_call 54; refine park ?_)
 refine ⟨?_⟩
 refine (laws_toIntS.calls k _ _ rw rw _ (Kd.C_below CR.out HB_1.out) LR.out Gtoi.out).mono ?_
 rintro e V2 ⟨vu, rfl, hS, hb⟩
 obtain ⟨Au, cu, rfl⟩ := Kd.R_slice hS
 have Rt_2 := am_ (Kd.S_below Rt_n.out hb)
 have BL_2 := am_ (blk_below BL_1.out hb)
 have HB_2 := am_ (below_then HB_1.out HB_1.out.size hb)
 clear Rt_n BL_1 HB_1
 have Ru_n := am_ (Kd.R_lower (Kd.R_mono (ok' := fun j => V1.heap.size ≤ j ∧ j < V2.heap.size) (Kd.R_bound hS) (fun j hj => ⟨hj.2.1, hj.2.2.1⟩)) (show w.heap.size ≤ V1.heap.size from QV1.out))
 have QV2 := am_ (show w.heap.size ≤ V2.heap.size from HB_2.out.size)
 have ZV2 := am_ (show V1.heap.size ≤ V2.heap.size from hb.size)
 clear hS hb
 go_wp2_with (go_at_call 49; refine park ?_)
 refine ⟨?_⟩
 refine (spec_TurnThreads.calls k _ _ p _ _ rw want told _ (Kd.S_reads' Rt_2.out).2.2 (Kd.S_reads' Rt_2.out).2.1 (Kd.R_reads' Ru_n.out).2.2 (Kd.R_reads' Ru_n.out).2.1 Gsp.out).mono ?_
 rintro e V3 ⟨vw, rfl, hS, hb⟩
 obtain ⟨Aw, cw, rfl⟩ := Kd.S_slice hS
 have Rt_3 := am_ (Kd.S_below Rt_2.out hb)
 have Ru_3 := am_ (Kd.R_below Ru_n.out hb)
 have BL_3 := am_ (blk_below BL_2.out hb)
 have HB_3 := am_ (below_then HB_2.out HB_2.out.size hb)
 clear Rt_2 Ru_n BL_2 HB_2
 have Rw_n := am_ (Kd.S_lower (Kd.S_mono (ok' := fun j => V2.heap.size ≤ j ∧ j < V3.heap.size) (Kd.S_bound hS) (fun j hj => ⟨hj.2.1, hj.2.2.1⟩)) (show w.heap.size ≤ V2.heap.size from QV2.out))
 have QV3 := am_ (show w.heap.size ≤ V3.heap.size from HB_3.out.size)
 have ZV3 := am_ (show V2.heap.size ≤ V3.heap.size from hb.size)
 clear hS hb
 have Bw_n := am_ (heap_alloc_new V3 (Obj.cells #[.slice Aw want.length cw] 35))
 have hb := below_alloc (Below.refl V3.heap.size V3) (Obj.cells #[.slice Aw want.length cw] 35)
 have eqs : (V3.alloc (Obj.cells #[.slice Aw want.length cw] 35)).heap.size = V3.heap.size + 1 := World.size_alloc _ _
 have Rw_4 := am_ (Kd.S_below Rw_n.out hb)
 have BL_4 := am_ (blk_below BL_3.out hb)
 have HB_4 := am_ (below_then HB_3.out HB_3.out.size hb)
 clear Rw_n BL_3 HB_3 hb
 have hl0 : (V3.alloc (Obj.cells #[.slice Aw want.length cw] 35)).cell? ⟨w.heap.size, 0, none⟩ = some (.slice A0 l.length c0) := (blk_cell BL_4.out 0).trans rfl
 go_wp2_with (go_at_call 45; refine park ?_)
 clear hl0
 refine ⟨?_⟩
 generalize V3.heap.size = gw at *
 generalize (V3.alloc (Obj.cells #[.slice Aw want.length cw] 35)) = V4a at *
 have QV4a := am_ (show w.heap.size ≤ V4a.heap.size from HB_4.out.size)
 have ZV4a := am_ (show V4a.heap.size = gw + 1 from eqs)
 clear eqs
 refine (laws_toProg.calls k _ _ l p _ (Kd.C_below CL.out HB_4.out) LL.out Gto.out).mono ?_
 rintro e V4 ⟨vx, rfl, hS, hb⟩
 obtain ⟨Ax, cx, rfl⟩ := Kd.S_slice hS
 have Rw_5 := am_ (Kd.S_below Rw_4.out hb)
 have BL_5 := am_ (blk_below BL_4.out hb)
 have Bw_5 := am_ (blk_below Bw_n.out hb)
 have HB_5 := am_ (below_then HB_4.out HB_4.out.size hb)
 clear Rw_4 BL_4 Bw_n HB_4
 have Rx_n := am_ (Kd.S_lower (Kd.S_mono (ok' := fun j => V4a.heap.size ≤ j ∧ j < V4.heap.size) (Kd.S_bound hS) (fun j hj => ⟨hj.2.1, hj.2.2.1⟩)) (show w.heap.size ≤ V4a.heap.size from QV4a.out))
 have QV4 := am_ (show w.heap.size ≤ V4.heap.size from HB_5.out.size)
 have ZV4 := am_ (show V4a.heap.size ≤ V4.heap.size from hb.size)
 clear hS hb
 have Bx_n := am_ (heap_alloc_new V4 (Obj.cells #[.slice Ax p.length cx] 35))
 have hb := below_alloc (Below.refl V4.heap.size V4) (Obj.cells #[.slice Ax p.length cx] 35)
 have eqs : (V4.alloc (Obj.cells #[.slice Ax p.length cx] 35)).heap.size = V4.heap.size + 1 := World.size_alloc _ _
 have Rw_6 := am_ (Kd.S_below Rw_5.out hb)
 have Rx_6 := am_ (Kd.S_below Rx_n.out hb)
 have BL_6 := am_ (blk_below BL_5.out hb)
 have Bw_6 := am_ (blk_below Bw_5.out hb)
 have HB_6 := am_ (below_then HB_5.out HB_5.out.size hb)
 clear Rw_5 Rx_n BL_5 Bw_5 HB_5 hb
 go_wp2_with (go_at_call 54; refine park ?_)
 refine ⟨?_⟩
 generalize V4.heap.size = gx at *
 generalize (V4.alloc (Obj.cells #[.slice Ax p.length cx] 35)) = V5a at *
 have QV5a := am_ (show w.heap.size ≤ V5a.heap.size from HB_6.out.size)
 have ZV5a := am_ (show V5a.heap.size = gx + 1 from eqs)
 clear eqs
 refine (laws_toIntS.calls k _ _ rw rw _ (Kd.C_below CR.out HB_6.out) LR.out Gtoi.out).mono ?_
 rintro e V5 ⟨vr, rfl, hS, hb⟩
 obtain ⟨Ar, cr, rfl⟩ := Kd.R_slice hS
 have Rw_7 := am_ (Kd.S_below Rw_6.out hb)
 have Rx_7 := am_ (Kd.S_below Rx_6.out hb)
 have BL_7 := am_ (blk_below BL_6.out hb)
 have Bw_7 := am_ (blk_below Bw_6.out hb)
 have Bx_7 := am_ (blk_below Bx_n.out hb)
 have HB_7 := am_ (below_then HB_6.out HB_6.out.size hb)
 clear Rw_6 Rx_6 BL_6 Bw_6 Bx_n HB_6
 have Rr_n := am_ (Kd.R_lower (Kd.R_mono (ok' := fun j => V5a.heap.size ≤ j ∧ j < V5.heap.size) (Kd.R_bound hS) (fun j hj => ⟨hj.2.1, hj.2.2.1⟩)) (show w.heap.size ≤ V5a.heap.size from QV5a.out))
 have QV5 := am_ (show w.heap.size ≤ V5.heap.size from HB_7.out.size)
 have ZV5 := am_ (show V5a.heap.size ≤ V5.heap.size from hb.size)
 clear hS hb
 have hl0 : V5.cell? ⟨gx, 0, none⟩ = some (.slice Ax p.length cx) := (blk_cell Bx_7.out 0).trans rfl
 go_wp2_with (go_at_call 47; refine park ?_)
 clear hl0
 refine ⟨?_⟩
 refine (impl_TurnThreads.calls k _ _ p _ _ rw want told _ (Kd.S_reads' Rx_7.out).2.2 (Kd.S_reads' Rx_7.out).2.1 (Kd.R_reads' Rr_n.out).2.2 (Kd.R_reads' Rr_n.out).2.1 Gim.out).mono ?_
 rintro e V6 ⟨vg, rfl, hS, hb⟩
 obtain ⟨Ag, cg, rfl⟩ := Kd.S_slice hS
 have Rw_8 := am_ (Kd.S_below Rw_7.out hb)
 have Rx_8 := am_ (Kd.S_below Rx_7.out hb)
 have Rr_8 := am_ (Kd.R_below Rr_n.out hb)
 have BL_8 := am_ (blk_below BL_7.out hb)
 have Bw_8 := am_ (blk_below Bw_7.out hb)
 have Bx_8 := am_ (blk_below Bx_7.out hb)
 have HB_8 := am_ (below_then HB_7.out HB_7.out.size hb)
 clear Rw_7 Rx_7 Rr_n BL_7 Bw_7 Bx_7 HB_7
 have Rg_n := am_ (Kd.S_lower (Kd.S_mono (ok' := fun j => V5.heap.size ≤ j ∧ j < V6.heap.size) (Kd.S_bound hS) (fun j hj => ⟨hj.2.1, hj.2.2.1⟩)) (show w.heap.size ≤ V5.heap.size from QV5.out))
 have QV6 := am_ (show w.heap.size ≤ V6.heap.size from HB_8.out.size)
 have ZV6 := am_ (show V5.heap.size ≤ V6.heap.size from hb.size)
 clear hS hb
 have Bg_n := am_ (heap_alloc_new V6 (Obj.cells #[.slice Ag want.length cg] 35))
 have hb := below_alloc (Below.refl V6.heap.size V6) (Obj.cells #[.slice Ag want.length cg] 35)
 have eqs : (V6.alloc (Obj.cells #[.slice Ag want.length cg] 35)).heap.size = V6.heap.size + 1 := World.size_alloc _ _
 have Rw_9 := am_ (Kd.S_below Rw_8.out hb)
 have Rx_9 := am_ (Kd.S_below Rx_8.out hb)
 have Rr_9 := am_ (Kd.R_below Rr_8.out hb)
 have Rg_9 := am_ (Kd.S_below Rg_n.out hb)
 have BL_9 := am_ (blk_below BL_8.out hb)
 have Bw_9 := am_ (blk_below Bw_8.out hb)
 have Bx_9 := am_ (blk_below Bx_8.out hb)
 have HB_9 := am_ (below_then HB_8.out HB_8.out.size hb)
 clear Rw_8 Rx_8 Rr_8 Rg_n BL_8 Bw_8 Bx_8 HB_8 hb
 have hl0 : (V6.alloc (Obj.cells #[.slice Ag want.length cg] 35)).cell? ⟨V6.heap.size, 0, none⟩ = some (.slice Ag want.length cg) := (blk_cell Bg_n.out 0).trans rfl
 have hl1 : (V6.alloc (Obj.cells #[.slice Ag want.length cg] 35)).cell? ⟨gw, 0, none⟩ = some (.slice Aw want.length cw) := (blk_cell Bw_9.out 0).trans rfl
 go_wp2_with (go_at_call 32; refine park ?_)
 clear hl0 hl1
 refine ⟨?_⟩
 generalize V6.heap.size = gg at *
 generalize (V6.alloc (Obj.cells #[.slice Ag want.length cg] 35)) = V7a at *
 have QV7a := am_ (show w.heap.size ≤ V7a.heap.size from HB_9.out.size)
 have ZV7a := am_ (show V7a.heap.size = gg + 1 from eqs)
 clear eqs
 refine (laws_eqProg.calls k _ _ want _ _ want true _ (Kd.S_reads' Rg_9.out).2.2 (Kd.S_reads' Rg_9.out).2.1 (Kd.S_reads' Rw_9.out).2.2 (Kd.S_reads' Rw_9.out).2.1 Geqw.out).mono ?_
 rintro e V7 ⟨rfl, hb⟩
 have Rw_10 := am_ (Kd.S_below Rw_9.out hb)
 have Rx_10 := am_ (Kd.S_below Rx_9.out hb)
 have Rr_10 := am_ (Kd.R_below Rr_9.out hb)
 have Rg_10 := am_ (Kd.S_below Rg_9.out hb)
 have BL_10 := am_ (blk_below BL_9.out hb)
 have Bw_10 := am_ (blk_below Bw_9.out hb)
 have Bx_10 := am_ (blk_below Bx_9.out hb)
 have Bg_10 := am_ (blk_below Bg_n.out hb)
 have HB_10 := am_ (below_then HB_9.out HB_9.out.size hb)
 clear Rw_9 Rx_9 Rr_9 Rg_9 BL_9 Bw_9 Bx_9 Bg_n HB_9 hb
 go_wp2_with fail
 have hb := below_drew (Below.refl V7.heap.size V7)
 have Rw_11 := am_ (Kd.S_below Rw_10.out hb)
 have Rx_11 := am_ (Kd.S_below Rx_10.out hb)
 have Rr_11 := am_ (Kd.R_below Rr_10.out hb)
 have Rg_11 := am_ (Kd.S_below Rg_10.out hb)
 have BL_11 := am_ (blk_below BL_10.out hb)
 have Bw_11 := am_ (blk_below Bw_10.out hb)
 have Bx_11 := am_ (blk_below Bx_10.out hb)
 have Bg_11 := am_ (blk_below Bg_10.out hb)
 have HB_11 := am_ (below_then HB_10.out HB_10.out.size hb)
 clear Rw_10 Rx_10 Rr_10 Rg_10 BL_10 Bw_10 Bx_10 Bg_10 HB_10 hb
 refine start_ (n := 5) (S := fun w' => w'.cell? ⟨gx, 0, none⟩ = some (.slice Ax p.length cx) ∧ w'.cell? ⟨w.heap.size, 0, none⟩ = some (.slice A0 l.length c0)) (ds := []) #[false, false, false, false, false] (by kernel_rfl) rfl rfl ⟨(blk_cell Bx_11.out 0).trans rfl, (blk_cell BL_11.out 0).trans rfl⟩ (fun hHeld => ?_)
 refine with_tabW laws_FnExactTurnThreads.tab13 laws_FnExactTurnThreads.bits13 (fun HT_ HW_ => ?_)
 generalize V7.drew = V8 at *
 refine take_ (i := 0) (N := some 52) (v := ?_) (a' := ?_) #[true, false, false, false, false] rfl rfl (take_ofW HT_.out HW_.out (by kernel_rfl)) (fun _ _ _ h => h) (Or.inl ⟨by rfl, ?_⟩) hHeld ?_ ?_
 rotate_left
 ·intro w' s0
  have s1 := s0.1
  go_simp
  with_reducible rfl
 rotate_left
 ·simp only [Act.put, List.setIfInBounds_toArray, List.set_cons_zero, List.set_cons_succ, i64_w, i32_w]
  rfl
 refine take_ (i := 1) (N := some 53) (v := ?_) (a' := ?_) #[true, true, false, false, false] rfl rfl (take_ofW HT_.out HW_.out (by kernel_rfl)) (fun _ _ _ h => h) (Or.inl ⟨by rfl, ?_⟩) hHeld ?_ ?_
 rotate_left
 ·intro w' s0
  have s1 := s0.2
  go_simp
  with_reducible rfl
 rotate_left
 ·simp only [Act.put, List.setIfInBounds_toArray, List.set_cons_zero, List.set_cons_succ, i64_w, i32_w]
  rfl
 refine one_ (i := 2) (N := some 54) #[true, true, true, false, false] rfl rfl (one_of HT_.out (by kernel_rfl)) (by decide) (fun K hK => ?_)
 refine goes_ Try.func45 (by kernel_rfl) rfl #[.agg #[.slice A0 l.length c0]] (by rfl) rfl rfl (by (try simp only [List.map_toArray, List.map_cons, List.map_nil]); first | done | rfl) ?_
 with_reducible refine (laws_toProg.calls k _ _ l p _ (Kd.C_below CL.out HB_11.out) LL.out Gto.out).mono ?_
 rintro e V9 ⟨vz, rfl, hS, hb⟩
 refine ⟨_, rfl, ?_⟩
 obtain ⟨Az, cz, rfl⟩ := Kd.S_slice hS
 have QV8 := am_ (show w.heap.size ≤ V8.heap.size from HB_11.out.size)
 have Rw_12 := am_ (Kd.S_below Rw_11.out hb)
 have Rx_12 := am_ (Kd.S_below Rx_11.out hb)
 have Rr_12 := am_ (Kd.R_below Rr_11.out hb)
 have Rg_12 := am_ (Kd.S_below Rg_11.out hb)
 have BL_12 := am_ (blk_below BL_11.out hb)
 have Bw_12 := am_ (blk_below Bw_11.out hb)
 have Bx_12 := am_ (blk_below Bx_11.out hb)
 have Bg_12 := am_ (blk_below Bg_11.out hb)
 have HB_12 := am_ (below_then HB_11.out HB_11.out.size hb)
 clear Rw_11 Rx_11 Rr_11 Rg_11 BL_11 Bw_11 Bx_11 Bg_11 HB_11
 have Rz_n := am_ (Kd.S_lower (Kd.S_mono (ok' := fun j => V8.heap.size ≤ j ∧ j < V9.heap.size) (Kd.S_bound hS) (fun j hj => ⟨hj.2.1, hj.2.2.1⟩)) (show w.heap.size ≤ V8.heap.size from QV8.out))
 have QV9 := am_ (show w.heap.size ≤ V9.heap.size from HB_12.out.size)
 have ZV9 := am_ (show V8.heap.size ≤ V9.heap.size from hb.size)
 clear hS hb
 refine hK.out _ _ ⟨(blk_cell Bx_12.out 0).trans rfl, (blk_cell BL_12.out 0).trans rfl⟩ (fun hHeld => ?_)
 clear hK K
 refine norm_ (a' := ?_) ?_ ?_
 rotate_left
 ·show Act.put _ (some 54) _ = _
  simp only [Act.put, List.setIfInBounds_toArray, List.set_cons_zero, List.set_cons_succ, i64_w, i32_w]
  rfl
 refine one_ (i := 3) (N := some 55) #[true, true, true, true, false] rfl rfl (one_of HT_.out (by kernel_rfl)) (by decide) (fun K hK => ?_)
 refine goes_ Try.func32 (by kernel_rfl) rfl #[.agg #[.slice Ax p.length cx], .agg #[.slice Az p.length cz]] (by rfl) rfl rfl (by (try simp only [List.map_toArray, List.map_cons, List.map_nil]); first | done | rfl) ?_
 with_reducible refine (laws_eqProg.calls k _ _ p _ _ p true _ (Kd.S_reads' Rx_12.out).2.2 (Kd.S_reads' Rx_12.out).2.1 (Kd.S_reads' Rz_n.out).2.2 (Kd.S_reads' Rz_n.out).2.1 Geqp.out).mono ?_
 rintro e V10 ⟨rfl, hb⟩
 refine ⟨_, rfl, ?_⟩
 have Rw_13 := am_ (Kd.S_below Rw_12.out hb)
 have Rx_13 := am_ (Kd.S_below Rx_12.out hb)
 have Rr_13 := am_ (Kd.R_below Rr_12.out hb)
 have Rg_13 := am_ (Kd.S_below Rg_12.out hb)
 have Rz_13 := am_ (Kd.S_below Rz_n.out hb)
 have BL_13 := am_ (blk_below BL_12.out hb)
 have Bw_13 := am_ (blk_below Bw_12.out hb)
 have Bx_13 := am_ (blk_below Bx_12.out hb)
 have Bg_13 := am_ (blk_below Bg_12.out hb)
 have HB_13 := am_ (below_then HB_12.out HB_12.out.size hb)
 clear Rw_12 Rx_12 Rr_12 Rg_12 Rz_n BL_12 Bw_12 Bx_12 Bg_12 HB_12 hb
 refine hK.out _ _ ⟨(blk_cell Bx_13.out 0).trans rfl, (blk_cell BL_13.out 0).trans rfl⟩ (fun hHeld => ?_)
 clear hK K
 refine norm_ (a' := ?_) ?_ ?_
 rotate_left
 ·show Act.put _ (some 55) _ = _
  simp only [Act.put, List.setIfInBounds_toArray, List.set_cons_zero, List.set_cons_succ, i64_w, i32_w]
  rfl
 refine pure_ (i := 4) (N := some 56) (v := ?_) (a' := ?_) #[true, true, true, true, true] rfl rfl (any_of HT_.out (by kernel_rfl)) (fun _ _ _ h => h) (Or.inl ⟨by rfl, ?_⟩) ?_ ?_
 rotate_left
 ·intro w'
  go_simp
  with_reducible rfl
 rotate_left
 ·simp only [Act.put, List.setIfInBounds_toArray, List.set_cons_zero, List.set_cons_succ, i64_w, i32_w]
  rfl
 refine done_ (done_of HT_.out (by kernel_rfl)) ?_
 go_wp2_with (go_at_call 54; refine park ?_)
 refine ⟨?_⟩
 have QV10 := am_ (show w.heap.size ≤ V10.heap.size from HB_13.out.size)
 refine (laws_toIntS.calls k _ _ rw rw _ (Kd.C_below CR.out HB_13.out) LR.out Gtoi.out).mono ?_
 rintro e V11 ⟨vi, rfl, hS, hb⟩
 obtain ⟨Ai, ci, rfl⟩ := Kd.R_slice hS
 have Rw_14 := am_ (Kd.S_below Rw_13.out hb)
 have Rx_14 := am_ (Kd.S_below Rx_13.out hb)
 have Rr_14 := am_ (Kd.R_below Rr_13.out hb)
 have Rg_14 := am_ (Kd.S_below Rg_13.out hb)
 have BL_14 := am_ (blk_below BL_13.out hb)
 have Bw_14 := am_ (blk_below Bw_13.out hb)
 have Bx_14 := am_ (blk_below Bx_13.out hb)
 have Bg_14 := am_ (blk_below Bg_13.out hb)
 have HB_14 := am_ (below_then HB_13.out HB_13.out.size hb)
 clear Rw_13 Rx_13 Rr_13 Rg_13 BL_13 Bw_13 Bx_13 Bg_13 HB_13
 have Ri_n := am_ (Kd.R_lower (Kd.R_mono (ok' := fun j => V10.heap.size ≤ j ∧ j < V11.heap.size) (Kd.R_bound hS) (fun j hj => ⟨hj.2.1, hj.2.2.1⟩)) (show w.heap.size ≤ V10.heap.size from QV10.out))
 have QV11 := am_ (show w.heap.size ≤ V11.heap.size from HB_14.out.size)
 have ZV11 := am_ (show V10.heap.size ≤ V11.heap.size from hb.size)
 clear hS hb
 go_wp2_with (go_at_call 55; refine park ?_)
 refine ⟨?_⟩
 refine (laws_eqIntS.calls k _ _ rw _ _ rw true _ (Kd.R_reads' Rr_14.out).2.2 (Kd.R_reads' Rr_14.out).2.1 (Kd.R_reads' Ri_n.out).2.2 (Kd.R_reads' Ri_n.out).2.1 Geqi.out).mono ?_
 rintro e V12 ⟨rfl, hd⟩
 have hb := hd.below
 clear hd
 have Rw_15 := am_ (Kd.S_below Rw_14.out hb)
 have Rx_15 := am_ (Kd.S_below Rx_14.out hb)
 have Rr_15 := am_ (Kd.R_below Rr_14.out hb)
 have Rg_15 := am_ (Kd.S_below Rg_14.out hb)
 have Ri_15 := am_ (Kd.R_below Ri_n.out hb)
 have BL_15 := am_ (blk_below BL_14.out hb)
 have Bw_15 := am_ (blk_below Bw_14.out hb)
 have Bx_15 := am_ (blk_below Bx_14.out hb)
 have Bg_15 := am_ (blk_below Bg_14.out hb)
 have HB_15 := am_ (below_then HB_14.out HB_14.out.size hb)
 clear Rw_14 Rx_14 Rr_14 Rg_14 Ri_n BL_14 Bw_14 Bx_14 Bg_14 HB_14 hb
 have NUM := am_ (show w.heap.size < V2.heap.size ∧ V2.heap.size ≤ gw ∧ gw + 1 = V4a.heap.size ∧ V4a.heap.size ≤ gx ∧ gx + 1 = V5a.heap.size ∧ V5a.heap.size ≤ V5.heap.size ∧ V5.heap.size ≤ gg from by
  have h1 := LT1.out; have h2 := ZV1.out; have h3 := ZV2.out; have h4 := ZV3.out; have h5 := ZV4a.out; have h6 := ZV4.out; have h7 := ZV5a.out; have h8 := ZV5.out; have h9 := ZV6.out
  omega)
 have hl0 : V12.cell? ⟨gx, 0, none⟩ = some (.slice Ax p.length cx) := (blk_cell Bx_15.out 0).trans rfl
 go_wp2_with (go_at_call 33; refine park ?_)
 clear hl0
 refine ⟨?_⟩
 have QV12 := am_ (show w.heap.size ≤ V12.heap.size from HB_15.out.size)
 refine (laws_markProg.calls k (fun j => V4a.heap.size ≤ j ∧ j < gx) _ p 1 k1 p1 w _ HB_15.out Rx_15.out Gmk.out).mono ?_
 rintro e V13 ⟨rfl, hS, hb, hk⟩
 have hn := NUM.out
 have Rw_16 := am_ (Kd.S_step Rw_15.out (fun j hj hlt => hk.2 j hlt (fun h2 => by omega)))
 have Rx_16 := am_ hS
 have Rr_16 := am_ (Kd.R_step Rr_15.out (fun j hj hlt => hk.2 j hlt (fun h2 => by omega)))
 have Rg_16 := am_ (Kd.S_step Rg_15.out (fun j hj hlt => hk.2 j hlt (fun h2 => by omega)))
 have BL_16 := am_ ((hk.2 w.heap.size (blk_lt BL_15.out) (fun h2 => by omega)).trans BL_15.out)
 have Bw_16 := am_ ((hk.2 gw (blk_lt Bw_15.out) (fun h2 => by omega)).trans Bw_15.out)
 have Bx_16 := am_ ((hk.2 gx (blk_lt Bx_15.out) (fun h2 => by omega)).trans Bx_15.out)
 have Bg_16 := am_ ((hk.2 gg (blk_lt Bg_15.out) (fun h2 => by omega)).trans Bg_15.out)
 have HB_16 := am_ hb
 clear Rw_15 Rx_15 Rr_15 Rg_15 BL_15 Bw_15 Bx_15 Bg_15 HB_15 hS hb hk hn
 go_wp2_with (go_at_call 56; refine park ?_)
 refine ⟨?_⟩
 have QV13 := am_ (show w.heap.size ≤ V13.heap.size from HB_16.out.size)
 refine (laws_markIntS.calls k (fun j => V5a.heap.size ≤ j ∧ j < V5.heap.size) _ rw k1 k2 r2 w _ HB_16.out Rr_16.out Gmki.out).mono ?_
 rintro e V14 ⟨rfl, hS, hb, hk⟩
 have hn := NUM.out
 have Rw_17 := am_ (Kd.S_step Rw_16.out (fun j hj hlt => hk.2 j hlt (fun h2 => by omega)))
 have Rr_17 := am_ hS
 have Rg_17 := am_ (Kd.S_step Rg_16.out (fun j hj hlt => hk.2 j hlt (fun h2 => by omega)))
 have BL_17 := am_ ((hk.2 w.heap.size (blk_lt BL_16.out) (fun h2 => by omega)).trans BL_16.out)
 have Bw_17 := am_ ((hk.2 gw (blk_lt Bw_16.out) (fun h2 => by omega)).trans Bw_16.out)
 have Bx_17 := am_ ((hk.2 gx (blk_lt Bx_16.out) (fun h2 => by omega)).trans Bx_16.out)
 have Bg_17 := am_ ((hk.2 gg (blk_lt Bg_16.out) (fun h2 => by omega)).trans Bg_16.out)
 have HB_17 := am_ hb
 clear Rw_16 Rr_16 Rg_16 BL_16 Bw_16 Bx_16 Bg_16 HB_16 hS hb hk hn
 have hk2 : decide (k2 < 0) = false := decide_eq_false (by have := Gk2.out; omega)
 have hm1 : decide (m < 0) = false := decide_eq_false (by have := Gm0.out; omega)
 have hmm : (m != m) = false := by simp
 have hl0 : V14.cell? ⟨gg, 0, none⟩ = some (.slice Ag want.length cg) := (blk_cell Bg_17.out 0).trans rfl
 have hl1 : V14.cell? ⟨gw, 0, none⟩ = some (.slice Aw want.length cw) := (blk_cell Bw_17.out 0).trans rfl
 go_wp2_with (go_at_call 32; refine park ?_)
 clear hl0 hl1
 refine ⟨?_⟩
 have QV14 := am_ (show w.heap.size ≤ V14.heap.size from HB_17.out.size)
 refine (laws_eqProg.calls k _ _ want _ _ want true _ (Kd.S_reads' Rg_17.out).2.2 (Kd.S_reads' Rg_17.out).2.1 (Kd.S_reads' Rw_17.out).2.2 (Kd.S_reads' Rw_17.out).2.1 Geqw.out).mono ?_
 rintro e V15 ⟨rfl, hb⟩
 have Rw_18 := am_ (Kd.S_below Rw_17.out hb)
 have Rg_18 := am_ (Kd.S_below Rg_17.out hb)
 have BL_18 := am_ (blk_below BL_17.out hb)
 have Bw_18 := am_ (blk_below Bw_17.out hb)
 have Bx_18 := am_ (blk_below Bx_17.out hb)
 have Bg_18 := am_ (blk_below Bg_17.out hb)
 have HB_18 := am_ (below_then HB_17.out HB_17.out.size hb)
 clear Rw_17 Rg_17 BL_17 Bw_17 Bx_17 Bg_17 HB_17 hb
 have hl0 : V15.cell? ⟨gg, 0, none⟩ = some (.slice Ag want.length cg) := (blk_cell Bg_18.out 0).trans rfl
 go_wp2_with (go_at_call 33; refine park ?_)
 clear hl0
 refine ⟨?_⟩
 have QV15 := am_ (show w.heap.size ≤ V15.heap.size from HB_18.out.size)
 refine (laws_markProg.calls k (fun j => V5.heap.size ≤ j ∧ j < gg) _ want 1 m w2 w _ HB_18.out Rg_18.out Gmkw.out).mono ?_
 rintro e V16 ⟨rfl, hS, hb, hk⟩
 have hn := NUM.out
 have Rw_19 := am_ (Kd.S_step Rw_18.out (fun j hj hlt => hk.2 j hlt (fun h2 => by omega)))
 have Rg_19 := am_ hS
 have BL_19 := am_ ((hk.2 w.heap.size (blk_lt BL_18.out) (fun h2 => by omega)).trans BL_18.out)
 have Bw_19 := am_ ((hk.2 gw (blk_lt Bw_18.out) (fun h2 => by omega)).trans Bw_18.out)
 have Bx_19 := am_ ((hk.2 gx (blk_lt Bx_18.out) (fun h2 => by omega)).trans Bx_18.out)
 have Bg_19 := am_ ((hk.2 gg (blk_lt Bg_18.out) (fun h2 => by omega)).trans Bg_18.out)
 have HB_19 := am_ hb
 clear Rw_18 Rg_18 BL_18 Bw_18 Bx_18 Bg_18 HB_18 hS hb hk hn
 have EL := am_ (show want.length = w2.length from (Kd.S_reads' Rg_19.out).1)
 have hl0 : V16.cell? ⟨gg, 0, none⟩ = some (.slice Ag want.length cg) := (blk_cell Bg_19.out 0).trans rfl
 go_wp2_with (go_at_call 34; refine park ?_)
 clear hl0
 refine ⟨?_⟩
 have QV16 := am_ (show w.heap.size ≤ V16.heap.size from HB_19.out.size)
 have hw2 := (Kd.S_reads' Rg_19.out)
 rw [EL.out] at hw2 ⊢
 refine (laws_heldProg.calls k _ _ w2 1 m _ hw2.2.2 hw2.2.1 Gheld.out).mono ?_
 rintro e V17 ⟨rfl, hb⟩
 have Rw_20 := am_ (Kd.S_below Rw_19.out hb)
 have Rg_20 := am_ (Kd.S_below Rg_19.out hb)
 have BL_20 := am_ (blk_below BL_19.out hb)
 have Bw_20 := am_ (blk_below Bw_19.out hb)
 have Bx_20 := am_ (blk_below Bx_19.out hb)
 have Bg_20 := am_ (blk_below Bg_19.out hb)
 have HB_20 := am_ (below_then HB_19.out HB_19.out.size hb)
 clear Rw_19 Rg_19 BL_19 Bw_19 Bx_19 Bg_19 HB_19 hb hw2
 have hl0 : V17.cell? ⟨w.heap.size, 0, none⟩ = some (.slice A0 l.length c0) := (blk_cell BL_20.out 0).trans rfl
 go_wp2_with (go_at_call 45; refine park ?_)
 clear hl0
 refine ⟨?_⟩
 have QV17 := am_ (show w.heap.size ≤ V17.heap.size from HB_20.out.size)
 refine (laws_toProg.calls k _ _ l p _ (Kd.C_below CL.out HB_20.out) LL.out Gto.out).mono ?_
 rintro e V18 ⟨vs, rfl, hS, hb⟩
 obtain ⟨As, cs, rfl⟩ := Kd.S_slice hS
 have Rw_21 := am_ (Kd.S_below Rw_20.out hb)
 have Rg_21 := am_ (Kd.S_below Rg_20.out hb)
 have BL_21 := am_ (blk_below BL_20.out hb)
 have Bw_21 := am_ (blk_below Bw_20.out hb)
 have Bx_21 := am_ (blk_below Bx_20.out hb)
 have Bg_21 := am_ (blk_below Bg_20.out hb)
 have HB_21 := am_ (below_then HB_20.out HB_20.out.size hb)
 clear Rw_20 Rg_20 BL_20 Bw_20 Bx_20 Bg_20 HB_20
 have Rs_n := am_ (Kd.S_lower (Kd.S_mono (ok' := fun j => V17.heap.size ≤ j ∧ j < V18.heap.size) (Kd.S_bound hS) (fun j hj => ⟨hj.2.1, hj.2.2.1⟩)) (show w.heap.size ≤ V17.heap.size from QV17.out))
 have QV18 := am_ (show w.heap.size ≤ V18.heap.size from HB_21.out.size)
 have ZV18 := am_ (show V17.heap.size ≤ V18.heap.size from hb.size)
 clear hS hb
 go_wp2_with (go_at_call 54; refine park ?_)
 refine ⟨?_⟩
 refine (laws_toIntS.calls k _ _ rw rw _ (Kd.C_below CR.out HB_21.out) LR.out Gtoi.out).mono ?_
 rintro e V19 ⟨vq, rfl, hS, hb⟩
 obtain ⟨Aq, cq, rfl⟩ := Kd.R_slice hS
 have Rw_22 := am_ (Kd.S_below Rw_21.out hb)
 have Rg_22 := am_ (Kd.S_below Rg_21.out hb)
 have Rs_22 := am_ (Kd.S_below Rs_n.out hb)
 have BL_22 := am_ (blk_below BL_21.out hb)
 have Bw_22 := am_ (blk_below Bw_21.out hb)
 have Bx_22 := am_ (blk_below Bx_21.out hb)
 have Bg_22 := am_ (blk_below Bg_21.out hb)
 have HB_22 := am_ (below_then HB_21.out HB_21.out.size hb)
 clear Rw_21 Rg_21 Rs_n BL_21 Bw_21 Bx_21 Bg_21 HB_21
 have Rq_n := am_ (Kd.R_lower (Kd.R_mono (ok' := fun j => V18.heap.size ≤ j ∧ j < V19.heap.size) (Kd.R_bound hS) (fun j hj => ⟨hj.2.1, hj.2.2.1⟩)) (show w.heap.size ≤ V18.heap.size from QV18.out))
 have QV19 := am_ (show w.heap.size ≤ V19.heap.size from HB_22.out.size)
 have ZV19 := am_ (show V18.heap.size ≤ V19.heap.size from hb.size)
 clear hS hb
 go_wp2_with (go_at_call 47; refine park ?_)
 refine ⟨?_⟩
 refine (impl_TurnThreads.calls k _ _ p _ _ rw want told _ (Kd.S_reads' Rs_22.out).2.2 (Kd.S_reads' Rs_22.out).2.1 (Kd.R_reads' Rq_n.out).2.2 (Kd.R_reads' Rq_n.out).2.1 Gim.out).mono ?_
 rintro e V20 ⟨vy, rfl, hS, hb⟩
 obtain ⟨Ay, cy, rfl⟩ := Kd.S_slice hS
 have Rw_23 := am_ (Kd.S_below Rw_22.out hb)
 have Rg_23 := am_ (Kd.S_below Rg_22.out hb)
 have Rs_23 := am_ (Kd.S_below Rs_22.out hb)
 have Rq_23 := am_ (Kd.R_below Rq_n.out hb)
 have BL_23 := am_ (blk_below BL_22.out hb)
 have Bw_23 := am_ (blk_below Bw_22.out hb)
 have Bx_23 := am_ (blk_below Bx_22.out hb)
 have Bg_23 := am_ (blk_below Bg_22.out hb)
 have HB_23 := am_ (below_then HB_22.out HB_22.out.size hb)
 clear Rw_22 Rg_22 Rs_22 Rq_n BL_22 Bw_22 Bx_22 Bg_22 HB_22
 have Ry_n := am_ (Kd.S_lower (Kd.S_mono (ok' := fun j => V19.heap.size ≤ j ∧ j < V20.heap.size) (Kd.S_bound hS) (fun j hj => ⟨hj.2.1, hj.2.2.1⟩)) (show w.heap.size ≤ V19.heap.size from QV19.out))
 have QV20 := am_ (show w.heap.size ≤ V20.heap.size from HB_23.out.size)
 have ZV20 := am_ (show V19.heap.size ≤ V20.heap.size from hb.size)
 clear hS hb
 have By_n := am_ (heap_alloc_new V20 (Obj.cells #[.slice Ay want.length cy] 35))
 have hb := below_alloc (Below.refl V20.heap.size V20) (Obj.cells #[.slice Ay want.length cy] 35)
 have eqs : (V20.alloc (Obj.cells #[.slice Ay want.length cy] 35)).heap.size = V20.heap.size + 1 := World.size_alloc _ _
 have Rw_24 := am_ (Kd.S_below Rw_23.out hb)
 have Rg_24 := am_ (Kd.S_below Rg_23.out hb)
 have Ry_24 := am_ (Kd.S_below Ry_n.out hb)
 have BL_24 := am_ (blk_below BL_23.out hb)
 have Bw_24 := am_ (blk_below Bw_23.out hb)
 have Bx_24 := am_ (blk_below Bx_23.out hb)
 have Bg_24 := am_ (blk_below Bg_23.out hb)
 have HB_24 := am_ (below_then HB_23.out HB_23.out.size hb)
 clear Rw_23 Rg_23 Ry_n BL_23 Bw_23 Bx_23 Bg_23 HB_23 hb
 have hl0 : (V20.alloc (Obj.cells #[.slice Ay want.length cy] 35)).cell? ⟨V20.heap.size, 0, none⟩ = some (.slice Ay want.length cy) := (blk_cell By_n.out 0).trans rfl
 have hl1 : (V20.alloc (Obj.cells #[.slice Ay want.length cy] 35)).cell? ⟨gw, 0, none⟩ = some (.slice Aw want.length cw) := (blk_cell Bw_24.out 0).trans rfl
 go_wp2_with (go_at_call 32; refine park ?_)
 clear hl0 hl1
 refine ⟨?_⟩
 generalize V20.heap.size = gy at *
 generalize (V20.alloc (Obj.cells #[.slice Ay want.length cy] 35)) = V21a at *
 have QV21a := am_ (show w.heap.size ≤ V21a.heap.size from HB_24.out.size)
 have ZV21a := am_ (show V21a.heap.size = gy + 1 from eqs)
 clear eqs
 refine (laws_eqProg.calls k _ _ want _ _ want true _ (Kd.S_reads' Ry_24.out).2.2 (Kd.S_reads' Ry_24.out).2.1 (Kd.S_reads' Rw_24.out).2.2 (Kd.S_reads' Rw_24.out).2.1 Geqw.out).mono ?_
 rintro e V21 ⟨rfl, hb⟩
 have Rw_25 := am_ (Kd.S_below Rw_24.out hb)
 have Rg_25 := am_ (Kd.S_below Rg_24.out hb)
 have Ry_25 := am_ (Kd.S_below Ry_24.out hb)
 have BL_25 := am_ (blk_below BL_24.out hb)
 have Bw_25 := am_ (blk_below Bw_24.out hb)
 have Bx_25 := am_ (blk_below Bx_24.out hb)
 have Bg_25 := am_ (blk_below Bg_24.out hb)
 have By_25 := am_ (blk_below By_n.out hb)
 have HB_25 := am_ (below_then HB_24.out HB_24.out.size hb)
 clear Rw_24 Rg_24 Ry_24 BL_24 Bw_24 Bx_24 Bg_24 By_n HB_24 hb
 have hl0 : V21.cell? ⟨gg, 0, none⟩ = some (.slice Ag want.length cg) := (blk_cell Bg_25.out 0).trans rfl
 go_wp2_with (go_at_call 34; refine park ?_)
 clear hl0
 refine ⟨?_⟩
 have hw2 := (Kd.S_reads' Rg_25.out)
 rw [EL.out] at hw2 ⊢
 refine (laws_heldProg.calls k _ _ w2 1 m _ hw2.2.2 hw2.2.1 Gheld.out).mono ?_
 rintro e V22 ⟨rfl, hb⟩
 have Rw_26 := am_ (Kd.S_below Rw_25.out hb)
 have Rg_26 := am_ (Kd.S_below Rg_25.out hb)
 have Ry_26 := am_ (Kd.S_below Ry_25.out hb)
 have BL_26 := am_ (blk_below BL_25.out hb)
 have Bw_26 := am_ (blk_below Bw_25.out hb)
 have Bx_26 := am_ (blk_below Bx_25.out hb)
 have Bg_26 := am_ (blk_below Bg_25.out hb)
 have By_26 := am_ (blk_below By_25.out hb)
 have HB_26 := am_ (below_then HB_25.out HB_25.out.size hb)
 clear Rw_25 Rg_25 Ry_25 BL_25 Bw_25 Bx_25 Bg_25 By_25 HB_25 hb hw2
 go_wp2_with fail
 refine bodyPost_ret (results_tmp rfl _ _ _) rfl ?_
 exact ⟨rfl, HB_26.out⟩
def laws_FnExactTurnThreads.Pure : Prop := ∀ (l : List (List S130)) (rw : List Int), l.length ≤ 9223372036854775807 → (∀ t ∈ l, t.length ≤ 9223372036854775807) → ∃ k p want p1 w2 r2 told left k1 k2 m, (rw.length : Int) > 1048576 ∨ laws_FnExactTurnThreads.Facts k l rw p want p1 w2 r2 told left k1 k2 m
theorem laws_FnExactTurnThreads.walk (P : laws_FnExactTurnThreads.Pure) (A0 : Option Addr) (c0 : Nat) (l : List (List S130)) (A1 : Option Addr) (c1 : Nat) (rw : List Int) (w : World) (hr0 : Kd.C (Kd.slice 130 k130) w A0 l.length l) (hc0 : l.length ≤ c0) (hr1 : Kd.C (Kd.int .i64) w A1 rw.length rw) (hc1 : rw.length ≤ c1) :
  Calls Try.prog 15 #[.agg #[.slice A0 l.length c0], .slice A1 rw.length c1] w fun e w' => e = .returned (.bool true) ∧ Below w.heap.size w w' := by
 obtain ⟨k, p, want, p1, w2, r2, told, left, k1, k2, m, h⟩ := P l rw hr0.2.1 (fun t ht => by
  obtain ⟨j, hj, rfl⟩ := List.getElem_of_mem ht
  obtain ⟨ad, _, hc⟩ := hr0.2.2 (by omega)
  obtain ⟨c, _, hK, _⟩ := hc j _ (List.getElem?_eq_getElem hj)
  obtain ⟨A, c', _, _, hC⟩ := (show ((Kd.slice 130 k130)).K w l[j] c from hK)
  exact hC.2.1)
 exact laws_FnExactTurnThreads.calls k A0 c0 l A1 c1 rw w p want p1 w2 r2 told left k1 k2 m hr0 hc0 hr1 hc1 h


end Go.Proofs.Ytefkbmhkhpekjaa.PB

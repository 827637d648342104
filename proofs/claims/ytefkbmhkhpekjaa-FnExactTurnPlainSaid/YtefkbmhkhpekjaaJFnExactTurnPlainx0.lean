-- Joined by wip/mclaim.py out of YtefkbmhkhpekjaaPBx43, YtefkbmhkhpekjaaPBx42, YtefkbmhkhpekjaaPBx126, YtefkbmhkhpekjaaPBx94, YtefkbmhkhpekjaaPBx44, YtefkbmhkhpekjaaPBx137, YtefkbmhkhpekjaaPBx127, YtefkbmhkhpekjaaPBx95, YtefkbmhkhpekjaaPBx45, YtefkbmhkhpekjaaPBx10
import Derived.Test.YtefkbmhkhpekjaaPBx0
import Derived.Test.YtefkbmhkhpekjaaJFnExactTurnPlainx1
import Derived.Test.YtefkbmhkhpekjaaJFnExactTurnPlainyPBx93
import Derived.Test.YtefkbmhkhpekjaaPBx32
import Derived.Test.YtefkbmhkhpekjaaPBx33
import Derived.Test.YtefkbmhkhpekjaaPBx34
import Derived.Test.YtefkbmhkhpekjaaPBx35
import Derived.Test.YtefkbmhkhpekjaaPBx80
namespace Go.Proofs.Ytefkbmhkhpekjaa.PB
open Go.RowKit Go.Proofs.YtefkbmhkhpekjaaW.PrintWords Go.Proofs.YtefkbmhkhpekjaaW.PrintLast Go.Proofs.YtefkbmhkhpekjaaW.PrintMore
attribute [local go_sem] max2_int min2_int max_two min_two max_three min_three max_four min_four   -- for this text's walks alone
open Go.Proofs.YtefkbmhkhpekjaaMine
set_option linter.unusedVariables false
set_option linter.unusedSimpArgs false

theorem z43_1 {p : Prop} (h : p := by first | rfl | (simp; done) | (simp [*]; done)) : p := h
theorem z43_2 {p : Prop} (h : p := by first | (with_reducible assumption) | assumption) : p := h
theorem z43_3 {p : Prop} (h : p := by first | rfl | (simp [errW_none, errW_some] <;> rfl) | (simp [*, errW_none, errW_some] <;> rfl)) : p := h
theorem z43_4 {p : Prop} (h : p := by repeat (first | (with_reducible first | exact HB.out | apply below_alloc | apply pw_below_drewN | apply below_drew1) | exact HB.out)) : p := h
theorem z43_5 {p : Prop} (h : p := by repeat (first | (with_reducible first | exact HB.out | apply below_alloc | apply pw_below_drewN | apply below_drew1 | refine below_set ?_ GE619.out) | exact HB.out)) : p := h
/-! ### spec_ProgOk: function 43 -/
mutual
def spec_ProgOk.l0 : Nat → Int → Int → Int → List (List (S85)) → Option (Bool)
  | 0, _, _, _, _ => none
  | k + 1, x3, x4, x5, x620000 => if x5 < (x620000.length : Int) then (if 0 ≤ x5 then ((spec_l1Thread.f k (rd_L7 x620000 x5)).bind fun t621 => (if t621 = true then (spec_ProgOk.l1 k (wrap64 (x3 + ((rd_L7 x620000 x5).length : Int))) x4 x5 0 x620000) else (some false))) else (none)) else (if x3 ≤ 14 then (some (decide (x4 ≤ 6))) else (some false))
def spec_ProgOk.l1 : Nat → Int → Int → Int → Int → List (List (S85)) → Option (Bool)
  | 0, _, _, _, _, _ => none
  | k + 1, x3, x4, x5, x6, x620000 => if 0 ≤ x5 then (if x5 < (x620000.length : Int) then (if x6 < ((rd_L7 x620000 x5).length : Int) then (if 0 ≤ x6 then ((spec_l1Reads.f ((rd_T85 (rd_L7 x620000 x5) x6).f0) ((rd_T85 (rd_L7 x620000 x5) x6).f1) ((rd_T85 (rd_L7 x620000 x5) x6).f2)).bind fun t626 => (if t626 = true then (spec_ProgOk.l1 k x3 (wrap64 (x4 + 1)) x5 (wrap64 (x6 + 1)) x620000) else ((spec_l1Writes.f ((rd_T85 (rd_L7 x620000 x5) x6).f0) ((rd_T85 (rd_L7 x620000 x5) x6).f1) ((rd_T85 (rd_L7 x620000 x5) x6).f2)).bind fun t629 => (if t629 = true then (spec_ProgOk.l1 k x3 (wrap64 (x4 + 1)) x5 (wrap64 (x6 + 1)) x620000) else (spec_ProgOk.l1 k x3 x4 x5 (wrap64 (x6 + 1)) x620000))))) else (none)) else (spec_ProgOk.l0 k x3 x4 (wrap64 (x5 + 1)) x620000)) else (none)) else (none)
end
def spec_ProgOk.f (k : Nat) (l0_0 : List (List (S85))) : Option (Bool) := if (l0_0.length : Int) > 3 then (some false) else (spec_ProgOk.l0 k 0 0 0 l0_0)
theorem spec_ProgOk.mono_l : ∀ k, (∀ y0 y1 y2 y3, LeO (spec_ProgOk.l0 k y0 y1 y2 y3) (spec_ProgOk.l0 (k + 1) y0 y1 y2 y3)) ∧ (∀ y0 y1 y2 y3 y4, LeO (spec_ProgOk.l1 k y0 y1 y2 y3 y4) (spec_ProgOk.l1 (k + 1) y0 y1 y2 y3 y4))
  | 0 => ⟨fun _ _ _ _ r h => by simp [spec_ProgOk.l0] at h, fun _ _ _ _ _ r h => by simp [spec_ProgOk.l1] at h⟩
  | k + 1 => by
    obtain ⟨ih0, ih1⟩ := spec_ProgOk.mono_l k
    refine ⟨?_, ?_⟩
    · intro y0 y1 y2 y3
      unfold spec_ProgOk.l0
      repeat' first
      | (with_reducible exact ih0 _ _ _ _)
      | (with_reducible exact ih1 _ _ _ _ _)
      | (with_reducible exact spec_l1Thread.mono _ _)
      | (with_reducible exact LeO.refl _)
      | (with_reducible exact LeO.none _)
      | (with_reducible refine LeO.ite ?_ ?_)
      | (with_reducible refine LeO.bind ?_ (fun _ => ?_))
      | exact ih0 _ _ _ _
      | exact ih1 _ _ _ _ _
      | exact spec_l1Thread.mono _ _
      | exact LeO.none _
      | refine LeO.ite ?_ ?_
      | refine LeO.bind ?_ (fun _ => ?_)
    · intro y0 y1 y2 y3 y4
      unfold spec_ProgOk.l1
      repeat' first
      | (with_reducible exact ih0 _ _ _ _)
      | (with_reducible exact ih1 _ _ _ _ _)
      | (with_reducible exact spec_l1Thread.mono _ _)
      | (with_reducible exact LeO.refl _)
      | (with_reducible exact LeO.none _)
      | (with_reducible refine LeO.ite ?_ ?_)
      | (with_reducible refine LeO.bind ?_ (fun _ => ?_))
      | exact ih0 _ _ _ _
      | exact ih1 _ _ _ _ _
      | exact spec_l1Thread.mono _ _
      | exact LeO.none _
      | refine LeO.ite ?_ ?_
      | refine LeO.bind ?_ (fun _ => ?_)
theorem spec_ProgOk.mono : ∀ a0 k, LeO (spec_ProgOk.f k a0) (spec_ProgOk.f (k + 1) a0) := by
  intro a0 k
  obtain ⟨ih0, ih1⟩ := spec_ProgOk.mono_l k
  unfold spec_ProgOk.f
  repeat' first
      | (with_reducible exact ih0 _ _ _ _)
      | (with_reducible exact ih1 _ _ _ _ _)
      | (with_reducible exact spec_l1Thread.mono _ _)
      | (with_reducible exact LeO.refl _)
      | (with_reducible exact LeO.none _)
      | (with_reducible refine LeO.ite ?_ ?_)
      | (with_reducible refine LeO.bind ?_ (fun _ => ?_))
      | exact ih0 _ _ _ _
      | exact ih1 _ _ _ _ _
      | exact spec_l1Thread.mono _ _
      | exact LeO.none _
      | refine LeO.ite ?_ ?_
      | refine LeO.bind ?_ (fun _ => ?_)
set_option maxHeartbeats 8000000 in
set_option maxRecDepth 100000 in
theorem spec_ProgOk.calls (k : Nat) (A0_0 : Option Addr) (c0_0 : Nat) (l0_0 : List (List (S85))) (r : Bool) (w : World) (hr0_0 : Kd.C (Kd.slice 85 k85) w A0_0 l0_0.length l0_0) (hc0_0 : l0_0.length ≤ c0_0) (h : spec_ProgOk.f k l0_0 = some r) :
  Calls Try.prog 43 #[.agg #[.slice A0_0 l0_0.length c0_0]] w fun e w' => e = .returned (.bool r) ∧ Below w.heap.size w w' := by
 have hu35 := Try.underlying35
 have hu85 := Try.underlying85
 have HR0_0 := am_ hr0_0
 have HC0_0 := am_ hc0_0
 clear hr0_0 hc0_0
 have HB := am_ (Below.refl w.heap.size w)
 have H : (if (l0_0.length : Int) > 3 then (some false) else (spec_ProgOk.l0 k 0 0 0 l0_0)) = some r := h
 clear h
 by_cases c2 : (l0_0.length : Int) > 3
 ·rw [if_pos c2] at H
  have c2b0 : decide (3 < (l0_0.length : Int)) = true := decide_eq_true c2
  have c2b1 : decide (3 < l0_0.length) = true := decide_eq_true (by omega)
  clear c2
  obtain rfl := Option.some.inj H
  go_enter Try.func43, Try.ntmps43
  go_wp2_with (first | ((with_reducible refine gate_dst (N := 1) rfl ?_); refine box_event ?hg (N := 1) ?hd (cs := #[.slice A0_0 l0_0.length c0_0]) (t := 35) ?hr ?_; (case hd => rfl); (case hg => rfl); (case hr => first | (go_simp; done) | (go_simp; rfl)); intro gb619 hg w3 hbox hb; have n0_ := am_ (below_step z43_4 hb); have n1_ := am_ (hbox); have n2_ := am_ (by rw [hg]; exact (below_size z43_4) : w.heap.size ≤ gb619); have n3_ := am_ (by rw [hg]; exact (below_size z43_4) : w.heap.size ≤ gb619); clear HB; have HB := n0_; have BK619 := n1_; have GW619 := n2_; have GE619 := n3_; clear n0_ n1_ n2_ n3_; clear hb hbox hg; have hcz4_0 : w3.cell? ⟨gb619, 0, none⟩ = some (.slice A0_0 l0_0.length c0_0) := (blk_cell BK619.out 0).trans rfl; have hfz4_0 := blk_frozen BK619.out 0))
  go_ret
  exact ⟨z43_3, z43_5⟩
 ·rw [if_neg c2] at H
  have c2b0 : decide (3 < (l0_0.length : Int)) = false := decide_eq_false c2
  have c2b1 : decide (3 < l0_0.length) = false := decide_eq_false (by omega)
  clear c2
  have H' := am_ H
  clear H
  go_enter Try.func43, Try.ntmps43
  go_wp2_with (first | ((with_reducible refine gate_dst (N := 1) rfl ?_); refine box_event ?hg (N := 1) ?hd (cs := #[.slice A0_0 l0_0.length c0_0]) (t := 35) ?hr ?_; (case hd => rfl); (case hg => rfl); (case hr => first | (go_simp; done) | (go_simp; rfl)); intro gb619 hg w5 hbox hb; have n0_ := am_ (below_step z43_4 hb); have n1_ := am_ (hbox); have n2_ := am_ (by rw [hg]; exact (below_size z43_4) : w.heap.size ≤ gb619); have n3_ := am_ (by rw [hg]; exact (below_size z43_4) : w.heap.size ≤ gb619); clear HB; have HB := n0_; have BK619 := n1_; have GW619 := n2_; have GE619 := n3_; clear n0_ n1_ n2_ n3_; clear hb hbox hg; have hcz6_0 : w5.cell? ⟨gb619, 0, none⟩ = some (.slice A0_0 l0_0.length c0_0) := (blk_cell BK619.out 0).trans rfl; have hfz6_0 := blk_frozen BK619.out 0))
  go_loopg [3, 4, 5] k (fun kq v3 v4 v5 w' => ∃ (x3_1 : Int) (x4_1 : Int) (x5_1 : Int), v3 = .int .i64 x3_1 ∧ v4 = .int .i64 x4_1 ∧ v5 = .int .i64 x5_1 ∧ Aside0 (spec_ProgOk.l0 kq x3_1 x4_1 x5_1 l0_0 = some r) ∧ Aside0 (kq ≤ k) ∧ Aside0 (w'.heap[gb619]? = some (.cells #[(.slice A0_0 l0_0.length c0_0)] 35 (0, 0))) ∧ Aside0 (Below w.heap.size w w'))
  case atStart => exact ⟨(0), (0), (0), z43_1, z43_1, z43_1, H', ⟨Nat.le_refl _⟩, ⟨bu BK619.out⟩, ⟨z43_5⟩⟩
  case round =>
   clear H'
   obtain ⟨x3_1, x4_1, x5_1, rfl, rfl, rfl, HA, HK1, BK619, HB⟩ := hrel
   cases gk with
   | zero => exact absurd HA.out (by simp [spec_ProgOk.l0])
   | succ k1 =>
    have H := HA.out
    clear HA
    simp only [spec_ProgOk.l0] at H
    by_cases c7 : x5_1 < (l0_0.length : Int)
    ·rw [if_pos c7] at H
     have c7b0 : decide (x5_1 < (l0_0.length : Int)) = true := decide_eq_true c7
     clear c7
     by_cases c8 : 0 ≤ x5_1
     ·rw [if_pos c8] at H
      have c8b0 : decide (0 ≤ x5_1) = true := decide_eq_true c8
      clear c8
      replace H := Option.bind_eq_some_iff.mp H
      obtain ⟨t621, A90, H⟩ := H
      replace H : (if t621 = true then (spec_ProgOk.l1 k1 (wrap64 (x3_1 + ((rd_L7 l0_0 x5_1).length : Int))) x4_1 x5_1 0 l0_0) else (some false)) = some r := H
      have A9 := am_ A90
      clear A90
      by_cases c10 : t621 = true
      ·subst c10
       have H1 : (spec_ProgOk.l1 k1 (wrap64 (x3_1 + ((rd_L7 l0_0 x5_1).length : Int))) x4_1 x5_1 0 l0_0) = some r := by rw [if_pos rfl] at H; exact H
       clear H
       have H := H1
       clear H1
       have H' := am_ H
       clear H
       have hcz11_0 : wr.cell? ⟨gb619, 0, none⟩ = some (.slice A0_0 l0_0.length c0_0) := (blk_cell BK619.out 0).trans rfl
       have hfz11_0 := blk_frozen BK619.out 0
       have p620 : 0 ≤ (x5_1 : Int) := of_decide_eq_true z43_2
       have q620 : x5_1 < (l0_0.length : Int) := of_decide_eq_true z43_2
       obtain ⟨ad620, A620_0, c620_0, e620, hx620_0, hl620_0, hi620_0⟩ := at_L7 HR0_0.out x5_1 p620 q620
       cases e620
       replace hx620_0 := (HB.out.cell (World.block_lt_of_cell? w _ hx620_0)).trans hx620_0
       have HR620_0 := am_ hi620_0
       have HC620_0 := am_ hl620_0
       clear hi620_0 hl620_0
       replace p620 := eq_true p620
       replace q620 := eq_true q620
       go_wp2_with (first | ((with_reducible refine gate_callee (f := 93) rfl ?_); refine goesL_ (some 23) rfl rfl Try.func93 (by kernel_rfl) rfl #[.slice A620_0 (rd_L7 l0_0 x5_1).length c620_0] rfl (by (try simp only [List.map_toArray, List.map_cons, List.map_nil]); first | done | rfl | (simp only [List.length_drop, List.length_take]; rfl)) ?_; (with_reducible refine (spec_l1Thread.calls k1 _ _ (rd_L7 l0_0 x5_1) true _ ?side1 ?side2 A9.out).mono ?_); (case side1 => repeat (first | exact (Kd.C_below HR620_0.out HB.out) | (with_reducible refine Kd.C_alloc ?_ _) | (with_reducible refine Kd.C_drewN ?_ _) | (with_reducible refine Kd.C_drew ?_))); (case side2 => exact HC620_0.out); rintro e w12 ⟨rfl, hb⟩; refine ⟨_, rfl, ?_⟩; have n0_ := am_ (blk_below (bu BK619.out) hb); have n1_ := am_ (below_step z43_5 hb); clear BK619 HB; have BK619 := n0_; have HB := n1_; clear n0_ n1_; (try clear hb); (try clear hb2); (try clear hk); (try clear hi); have hcz13_0 : w12.cell? ⟨gb619, 0, none⟩ = some (.slice (some ad620) l0_0.length c0_0) := (blk_cell BK619.out 0).trans rfl; have hfz13_0 := blk_frozen BK619.out 0; have p622 : 0 ≤ (x5_1 : Int) := of_decide_eq_true z43_2; have q622 : x5_1 < (l0_0.length : Int) := of_decide_eq_true z43_2; obtain ⟨ad622, A622_0, c622_0, e622, hx622_0, hl622_0, hi622_0⟩ := at_L7 HR0_0.out x5_1 p622 q622; obtain rfl : ad620 = ad622 := (by injection e622); replace hx622_0 := (HB.out.cell (World.block_lt_of_cell? w _ hx622_0)).trans hx622_0; have HR622_0 := am_ hi622_0; have HC622_0 := am_ hl622_0; clear hi622_0 hl622_0; replace p622 := eq_true p622; replace q622 := eq_true q622))
       go_loopg [4, 6] k1 (fun kq v4 v6 w' => ∃ (x4_2 : Int) (x6_2 : Int), v4 = .int .i64 x4_2 ∧ v6 = .int .i64 x6_2 ∧ Aside0 (spec_ProgOk.l1 kq (wrap64 (x3_1 + ((rd_L7 l0_0 x5_1).length : Int))) x4_2 x5_1 x6_2 l0_0 = some r) ∧ Aside0 (kq ≤ k1) ∧ Aside0 (w'.heap[gb619]? = some (.cells #[(.slice (some ad620) l0_0.length c0_0)] 35 (0, 0))) ∧ Aside0 (Below w.heap.size w w'))
       case atStart => exact ⟨(x4_1), (0), z43_1, z43_1, H', ⟨Nat.le_refl _⟩, ⟨bu BK619.out⟩, ⟨z43_5⟩⟩
       case round =>
        clear H'
        obtain ⟨x4_2, x6_2, rfl, rfl, HA, HK2, BK619, HB⟩ := hrel
        cases gk with
        | zero => exact absurd HA.out (by simp [spec_ProgOk.l1])
        | succ k2 =>
         have H := HA.out
         clear HA
         simp only [spec_ProgOk.l1] at H
         by_cases c14 : 0 ≤ x5_1
         ·rw [if_pos c14] at H
          have c14b0 : decide (0 ≤ x5_1) = true := decide_eq_true c14
          clear c14
          by_cases c15 : x5_1 < (l0_0.length : Int)
          ·rw [if_pos c15] at H
           have c15b0 : decide (x5_1 < (l0_0.length : Int)) = true := decide_eq_true c15
           clear c15
           by_cases c16 : x6_2 < ((rd_L7 l0_0 x5_1).length : Int)
           ·rw [if_pos c16] at H
            have c16b0 : decide (x6_2 < ((rd_L7 l0_0 x5_1).length : Int)) = true := decide_eq_true c16
            clear c16
            by_cases c17 : 0 ≤ x6_2
            ·rw [if_pos c17] at H
             have c17b0 : decide (0 ≤ x6_2) = true := decide_eq_true c17
             clear c17
             replace H := Option.bind_eq_some_iff.mp H
             obtain ⟨t626, A180, H⟩ := H
             replace H : (if t626 = true then (spec_ProgOk.l1 k2 (wrap64 (x3_1 + ((rd_L7 l0_0 x5_1).length : Int))) (wrap64 (x4_2 + 1)) x5_1 (wrap64 (x6_2 + 1)) l0_0) else ((spec_l1Writes.f ((rd_T85 (rd_L7 l0_0 x5_1) x6_2).f0) ((rd_T85 (rd_L7 l0_0 x5_1) x6_2).f1) ((rd_T85 (rd_L7 l0_0 x5_1) x6_2).f2)).bind fun t629 => (if t629 = true then (spec_ProgOk.l1 k2 (wrap64 (x3_1 + ((rd_L7 l0_0 x5_1).length : Int))) (wrap64 (x4_2 + 1)) x5_1 (wrap64 (x6_2 + 1)) l0_0) else (spec_ProgOk.l1 k2 (wrap64 (x3_1 + ((rd_L7 l0_0 x5_1).length : Int))) x4_2 x5_1 (wrap64 (x6_2 + 1)) l0_0)))) = some r := H
             have A18 := am_ A180
             clear A180
             by_cases c19 : t626 = true
             ·subst c19
              have H1 : (spec_ProgOk.l1 k2 (wrap64 (x3_1 + ((rd_L7 l0_0 x5_1).length : Int))) (wrap64 (x4_2 + 1)) x5_1 (wrap64 (x6_2 + 1)) l0_0) = some r := by rw [if_pos rfl] at H; exact H
              clear H
              have H := H1
              clear H1
              have H' := am_ H
              clear H
              have hcz20_0 : wr.cell? ⟨gb619, 0, none⟩ = some (.slice (some ad620) l0_0.length c0_0) := (blk_cell BK619.out 0).trans rfl
              have hfz20_0 := blk_frozen BK619.out 0
              have p623 : 0 ≤ (x5_1 : Int) := of_decide_eq_true z43_2
              have q623 : x5_1 < (l0_0.length : Int) := of_decide_eq_true z43_2
              obtain ⟨ad623, A623_0, c623_0, e623, hx623_0, hl623_0, hi623_0⟩ := at_L7 HR0_0.out x5_1 p623 q623
              obtain rfl : ad620 = ad623 := (by injection e623)
              replace hx623_0 := (HB.out.cell (World.block_lt_of_cell? w _ hx623_0)).trans hx623_0
              have HR623_0 := am_ hi623_0
              have HC623_0 := am_ hl623_0
              clear hi623_0 hl623_0
              replace p623 := eq_true p623
              replace q623 := eq_true q623
              have p624 : 0 ≤ (x5_1 : Int) := of_decide_eq_true z43_2
              have q624 : x5_1 < (l0_0.length : Int) := of_decide_eq_true z43_2
              obtain ⟨ad624, A624_0, c624_0, e624, hx624_0, hl624_0, hi624_0⟩ := at_L7 HR0_0.out x5_1 p624 q624
              obtain rfl : ad620 = ad624 := (by injection e624)
              replace hx624_0 := (HB.out.cell (World.block_lt_of_cell? w _ hx624_0)).trans hx624_0
              have HR624_0 := am_ hi624_0
              have HC624_0 := am_ hl624_0
              clear hi624_0 hl624_0
              replace p624 := eq_true p624
              replace q624 := eq_true q624
              have ea_ := Option.some.inj (hx623_0.symm.trans hx624_0)
              injection ea_ with ea_ en_ ec_
              subst ea_
              subst ec_
              clear en_
              have p625 : 0 ≤ (x6_2 : Int) := of_decide_eq_true z43_2
              have q625 : x6_2 < ((rd_L7 l0_0 x5_1).length : Int) := of_decide_eq_true z43_2
              obtain ⟨ad625, e625, hx625_0, hx625_1, hx625_2⟩ := at_T85 HR624_0.out x6_2 p625 q625
              cases e625
              replace hx625_0 := (HB.out.cell (World.block_lt_of_cell? w _ hx625_0)).trans hx625_0
              replace hx625_1 := (HB.out.cell (World.block_lt_of_cell? w _ hx625_1)).trans hx625_1
              replace hx625_2 := (HB.out.cell (World.block_lt_of_cell? w _ hx625_2)).trans hx625_2
              replace p625 := eq_true p625
              replace q625 := eq_true q625
              go_wp2_with (first | ((with_reducible refine gate_callee (f := 87) rfl ?_); refine goesL_ (some 51) rfl rfl Try.func87 (by kernel_rfl) rfl #[.agg #[.int .i64 ((rd_T85 (rd_L7 l0_0 x5_1) x6_2).f0), .int .i64 ((rd_T85 (rd_L7 l0_0 x5_1) x6_2).f1), .int .i64 ((rd_T85 (rd_L7 l0_0 x5_1) x6_2).f2)]] rfl (by (try simp only [List.map_toArray, List.map_cons, List.map_nil]); first | done | rfl | (simp only [List.length_drop, List.length_take]; rfl)) ?_; (with_reducible refine (spec_l1Reads.calls ((rd_T85 (rd_L7 l0_0 x5_1) x6_2).f0) ((rd_T85 (rd_L7 l0_0 x5_1) x6_2).f1) ((rd_T85 (rd_L7 l0_0 x5_1) x6_2).f2) true _ A18.out).mono ?_); rintro e w21 ⟨rfl, hb⟩; refine ⟨_, rfl, ?_⟩; have n0_ := am_ (blk_below (bu BK619.out) hb); have n1_ := am_ (below_step z43_5 hb); clear BK619 HB; have BK619 := n0_; have HB := n1_; clear n0_ n1_; (try clear hb); (try clear hb2); (try clear hk); (try clear hi)))
              go_roundg k2
              case measure => have := HK1.out; have := HK2.out; omega
              case rel => exact ⟨(wrap64 (x4_2 + 1)), (wrap64 (x6_2 + 1)), z43_1, z43_1, H', ⟨by have := HK1.out; have := HK2.out; omega⟩, ⟨bu BK619.out⟩, ⟨z43_5⟩⟩
             ·replace c19 := Bool.eq_false_iff.mpr c19
              subst c19
              have H1 : ((spec_l1Writes.f ((rd_T85 (rd_L7 l0_0 x5_1) x6_2).f0) ((rd_T85 (rd_L7 l0_0 x5_1) x6_2).f1) ((rd_T85 (rd_L7 l0_0 x5_1) x6_2).f2)).bind fun t629 => (if t629 = true then (spec_ProgOk.l1 k2 (wrap64 (x3_1 + ((rd_L7 l0_0 x5_1).length : Int))) (wrap64 (x4_2 + 1)) x5_1 (wrap64 (x6_2 + 1)) l0_0) else (spec_ProgOk.l1 k2 (wrap64 (x3_1 + ((rd_L7 l0_0 x5_1).length : Int))) x4_2 x5_1 (wrap64 (x6_2 + 1)) l0_0))) = some r := by rw [if_neg (show ¬ (false = true) by decide)] at H; exact H
              clear H
              have H := H1
              clear H1
              replace H := Option.bind_eq_some_iff.mp H
              obtain ⟨t629, A220, H⟩ := H
              replace H : (if t629 = true then (spec_ProgOk.l1 k2 (wrap64 (x3_1 + ((rd_L7 l0_0 x5_1).length : Int))) (wrap64 (x4_2 + 1)) x5_1 (wrap64 (x6_2 + 1)) l0_0) else (spec_ProgOk.l1 k2 (wrap64 (x3_1 + ((rd_L7 l0_0 x5_1).length : Int))) x4_2 x5_1 (wrap64 (x6_2 + 1)) l0_0)) = some r := H
              have A22 := am_ A220
              clear A220
              by_cases c23 : t629 = true
              ·subst c23
               have H1 : (spec_ProgOk.l1 k2 (wrap64 (x3_1 + ((rd_L7 l0_0 x5_1).length : Int))) (wrap64 (x4_2 + 1)) x5_1 (wrap64 (x6_2 + 1)) l0_0) = some r := by rw [if_pos rfl] at H; exact H
               clear H
               have H := H1
               clear H1
               have H' := am_ H
               clear H
               have hcz24_0 : wr.cell? ⟨gb619, 0, none⟩ = some (.slice (some ad620) l0_0.length c0_0) := (blk_cell BK619.out 0).trans rfl
               have hfz24_0 := blk_frozen BK619.out 0
               have p623 : 0 ≤ (x5_1 : Int) := of_decide_eq_true z43_2
               have q623 : x5_1 < (l0_0.length : Int) := of_decide_eq_true z43_2
               obtain ⟨ad623, A623_0, c623_0, e623, hx623_0, hl623_0, hi623_0⟩ := at_L7 HR0_0.out x5_1 p623 q623
               obtain rfl : ad620 = ad623 := (by injection e623)
               replace hx623_0 := (HB.out.cell (World.block_lt_of_cell? w _ hx623_0)).trans hx623_0
               have HR623_0 := am_ hi623_0
               have HC623_0 := am_ hl623_0
               clear hi623_0 hl623_0
               replace p623 := eq_true p623
               replace q623 := eq_true q623
               have p624 : 0 ≤ (x5_1 : Int) := of_decide_eq_true z43_2
               have q624 : x5_1 < (l0_0.length : Int) := of_decide_eq_true z43_2
               obtain ⟨ad624, A624_0, c624_0, e624, hx624_0, hl624_0, hi624_0⟩ := at_L7 HR0_0.out x5_1 p624 q624
               obtain rfl : ad620 = ad624 := (by injection e624)
               replace hx624_0 := (HB.out.cell (World.block_lt_of_cell? w _ hx624_0)).trans hx624_0
               have HR624_0 := am_ hi624_0
               have HC624_0 := am_ hl624_0
               clear hi624_0 hl624_0
               replace p624 := eq_true p624
               replace q624 := eq_true q624
               have ea_ := Option.some.inj (hx623_0.symm.trans hx624_0)
               injection ea_ with ea_ en_ ec_
               subst ea_
               subst ec_
               clear en_
               have p625 : 0 ≤ (x6_2 : Int) := of_decide_eq_true z43_2
               have q625 : x6_2 < ((rd_L7 l0_0 x5_1).length : Int) := of_decide_eq_true z43_2
               obtain ⟨ad625, e625, hx625_0, hx625_1, hx625_2⟩ := at_T85 HR624_0.out x6_2 p625 q625
               cases e625
               replace hx625_0 := (HB.out.cell (World.block_lt_of_cell? w _ hx625_0)).trans hx625_0
               replace hx625_1 := (HB.out.cell (World.block_lt_of_cell? w _ hx625_1)).trans hx625_1
               replace hx625_2 := (HB.out.cell (World.block_lt_of_cell? w _ hx625_2)).trans hx625_2
               replace p625 := eq_true p625
               replace q625 := eq_true q625
               go_wp2_with (first | ((with_reducible refine gate_callee (f := 87) rfl ?_); refine goesL_ (some 51) rfl rfl Try.func87 (by kernel_rfl) rfl #[.agg #[.int .i64 ((rd_T85 (rd_L7 l0_0 x5_1) x6_2).f0), .int .i64 ((rd_T85 (rd_L7 l0_0 x5_1) x6_2).f1), .int .i64 ((rd_T85 (rd_L7 l0_0 x5_1) x6_2).f2)]] rfl (by (try simp only [List.map_toArray, List.map_cons, List.map_nil]); first | done | rfl | (simp only [List.length_drop, List.length_take]; rfl)) ?_; (with_reducible refine (spec_l1Reads.calls ((rd_T85 (rd_L7 l0_0 x5_1) x6_2).f0) ((rd_T85 (rd_L7 l0_0 x5_1) x6_2).f1) ((rd_T85 (rd_L7 l0_0 x5_1) x6_2).f2) false _ A18.out).mono ?_); rintro e w25 ⟨rfl, hb⟩; refine ⟨_, rfl, ?_⟩; have n0_ := am_ (blk_below (bu BK619.out) hb); have n1_ := am_ (below_step z43_5 hb); clear BK619 HB; have BK619 := n0_; have HB := n1_; clear n0_ n1_; (try clear hb); (try clear hb2); (try clear hk); (try clear hi); have hcz26_0 : w25.cell? ⟨gb619, 0, none⟩ = some (.slice (some ad620) l0_0.length c0_0) := (blk_cell BK619.out 0).trans rfl; have hfz26_0 := blk_frozen BK619.out 0; have p627 : 0 ≤ (x5_1 : Int) := of_decide_eq_true z43_2; have q627 : x5_1 < (l0_0.length : Int) := of_decide_eq_true z43_2; obtain ⟨ad627, A627_0, c627_0, e627, hx627_0, hl627_0, hi627_0⟩ := at_L7 HR0_0.out x5_1 p627 q627; obtain rfl : ad620 = ad627 := (by injection e627); replace hx627_0 := (HB.out.cell (World.block_lt_of_cell? w _ hx627_0)).trans hx627_0; have HR627_0 := am_ hi627_0; have HC627_0 := am_ hl627_0; clear hi627_0 hl627_0; replace p627 := eq_true p627; replace q627 := eq_true q627; have p628 : 0 ≤ (x6_2 : Int) := of_decide_eq_true z43_2; have q628 : x6_2 < ((rd_L7 l0_0 x5_1).length : Int) := of_decide_eq_true z43_2; obtain ⟨ad628, e628, hx628_0, hx628_1, hx628_2⟩ := at_T85 HR627_0.out x6_2 p628 q628; cases e628; replace hx628_0 := (HB.out.cell (World.block_lt_of_cell? w _ hx628_0)).trans hx628_0; replace hx628_1 := (HB.out.cell (World.block_lt_of_cell? w _ hx628_1)).trans hx628_1; replace hx628_2 := (HB.out.cell (World.block_lt_of_cell? w _ hx628_2)).trans hx628_2; replace p628 := eq_true p628; replace q628 := eq_true q628) | (go_at_call 88; (with_reducible refine (spec_l1Writes.calls ((rd_T85 (rd_L7 l0_0 x5_1) x6_2).f0) ((rd_T85 (rd_L7 l0_0 x5_1) x6_2).f1) ((rd_T85 (rd_L7 l0_0 x5_1) x6_2).f2) true _ A22.out).mono ?_); rintro e w27 ⟨rfl, hb⟩; have n0_ := am_ (blk_below (bu BK619.out) hb); have n1_ := am_ (below_step z43_5 hb); clear BK619 HB; have BK619 := n0_; have HB := n1_; clear n0_ n1_; (try clear hb); (try clear hb2); (try clear hk); (try clear hi)))
               go_roundg k2
               case measure => have := HK1.out; have := HK2.out; omega
               case rel => exact ⟨(wrap64 (x4_2 + 1)), (wrap64 (x6_2 + 1)), z43_1, z43_1, H', ⟨by have := HK1.out; have := HK2.out; omega⟩, ⟨bu BK619.out⟩, ⟨z43_5⟩⟩
              ·replace c23 := Bool.eq_false_iff.mpr c23
               subst c23
               have H1 : (spec_ProgOk.l1 k2 (wrap64 (x3_1 + ((rd_L7 l0_0 x5_1).length : Int))) x4_2 x5_1 (wrap64 (x6_2 + 1)) l0_0) = some r := by rw [if_neg (show ¬ (false = true) by decide)] at H; exact H
               clear H
               have H := H1
               clear H1
               have H' := am_ H
               clear H
               have hcz28_0 : wr.cell? ⟨gb619, 0, none⟩ = some (.slice (some ad620) l0_0.length c0_0) := (blk_cell BK619.out 0).trans rfl
               have hfz28_0 := blk_frozen BK619.out 0
               have p623 : 0 ≤ (x5_1 : Int) := of_decide_eq_true z43_2
               have q623 : x5_1 < (l0_0.length : Int) := of_decide_eq_true z43_2
               obtain ⟨ad623, A623_0, c623_0, e623, hx623_0, hl623_0, hi623_0⟩ := at_L7 HR0_0.out x5_1 p623 q623
               obtain rfl : ad620 = ad623 := (by injection e623)
               replace hx623_0 := (HB.out.cell (World.block_lt_of_cell? w _ hx623_0)).trans hx623_0
               have HR623_0 := am_ hi623_0
               have HC623_0 := am_ hl623_0
               clear hi623_0 hl623_0
               replace p623 := eq_true p623
               replace q623 := eq_true q623
               have p624 : 0 ≤ (x5_1 : Int) := of_decide_eq_true z43_2
               have q624 : x5_1 < (l0_0.length : Int) := of_decide_eq_true z43_2
               obtain ⟨ad624, A624_0, c624_0, e624, hx624_0, hl624_0, hi624_0⟩ := at_L7 HR0_0.out x5_1 p624 q624
               obtain rfl : ad620 = ad624 := (by injection e624)
               replace hx624_0 := (HB.out.cell (World.block_lt_of_cell? w _ hx624_0)).trans hx624_0
               have HR624_0 := am_ hi624_0
               have HC624_0 := am_ hl624_0
               clear hi624_0 hl624_0
               replace p624 := eq_true p624
               replace q624 := eq_true q624
               have ea_ := Option.some.inj (hx623_0.symm.trans hx624_0)
               injection ea_ with ea_ en_ ec_
               subst ea_
               subst ec_
               clear en_
               have p625 : 0 ≤ (x6_2 : Int) := of_decide_eq_true z43_2
               have q625 : x6_2 < ((rd_L7 l0_0 x5_1).length : Int) := of_decide_eq_true z43_2
               obtain ⟨ad625, e625, hx625_0, hx625_1, hx625_2⟩ := at_T85 HR624_0.out x6_2 p625 q625
               cases e625
               replace hx625_0 := (HB.out.cell (World.block_lt_of_cell? w _ hx625_0)).trans hx625_0
               replace hx625_1 := (HB.out.cell (World.block_lt_of_cell? w _ hx625_1)).trans hx625_1
               replace hx625_2 := (HB.out.cell (World.block_lt_of_cell? w _ hx625_2)).trans hx625_2
               replace p625 := eq_true p625
               replace q625 := eq_true q625
               go_wp2_with (first | ((with_reducible refine gate_callee (f := 87) rfl ?_); refine goesL_ (some 51) rfl rfl Try.func87 (by kernel_rfl) rfl #[.agg #[.int .i64 ((rd_T85 (rd_L7 l0_0 x5_1) x6_2).f0), .int .i64 ((rd_T85 (rd_L7 l0_0 x5_1) x6_2).f1), .int .i64 ((rd_T85 (rd_L7 l0_0 x5_1) x6_2).f2)]] rfl (by (try simp only [List.map_toArray, List.map_cons, List.map_nil]); first | done | rfl | (simp only [List.length_drop, List.length_take]; rfl)) ?_; (with_reducible refine (spec_l1Reads.calls ((rd_T85 (rd_L7 l0_0 x5_1) x6_2).f0) ((rd_T85 (rd_L7 l0_0 x5_1) x6_2).f1) ((rd_T85 (rd_L7 l0_0 x5_1) x6_2).f2) false _ A18.out).mono ?_); rintro e w29 ⟨rfl, hb⟩; refine ⟨_, rfl, ?_⟩; have n0_ := am_ (blk_below (bu BK619.out) hb); have n1_ := am_ (below_step z43_5 hb); clear BK619 HB; have BK619 := n0_; have HB := n1_; clear n0_ n1_; (try clear hb); (try clear hb2); (try clear hk); (try clear hi); have hcz30_0 : w29.cell? ⟨gb619, 0, none⟩ = some (.slice (some ad620) l0_0.length c0_0) := (blk_cell BK619.out 0).trans rfl; have hfz30_0 := blk_frozen BK619.out 0; have p627 : 0 ≤ (x5_1 : Int) := of_decide_eq_true z43_2; have q627 : x5_1 < (l0_0.length : Int) := of_decide_eq_true z43_2; obtain ⟨ad627, A627_0, c627_0, e627, hx627_0, hl627_0, hi627_0⟩ := at_L7 HR0_0.out x5_1 p627 q627; obtain rfl : ad620 = ad627 := (by injection e627); replace hx627_0 := (HB.out.cell (World.block_lt_of_cell? w _ hx627_0)).trans hx627_0; have HR627_0 := am_ hi627_0; have HC627_0 := am_ hl627_0; clear hi627_0 hl627_0; replace p627 := eq_true p627; replace q627 := eq_true q627; have p628 : 0 ≤ (x6_2 : Int) := of_decide_eq_true z43_2; have q628 : x6_2 < ((rd_L7 l0_0 x5_1).length : Int) := of_decide_eq_true z43_2; obtain ⟨ad628, e628, hx628_0, hx628_1, hx628_2⟩ := at_T85 HR627_0.out x6_2 p628 q628; cases e628; replace hx628_0 := (HB.out.cell (World.block_lt_of_cell? w _ hx628_0)).trans hx628_0; replace hx628_1 := (HB.out.cell (World.block_lt_of_cell? w _ hx628_1)).trans hx628_1; replace hx628_2 := (HB.out.cell (World.block_lt_of_cell? w _ hx628_2)).trans hx628_2; replace p628 := eq_true p628; replace q628 := eq_true q628) | (go_at_call 88; (with_reducible refine (spec_l1Writes.calls ((rd_T85 (rd_L7 l0_0 x5_1) x6_2).f0) ((rd_T85 (rd_L7 l0_0 x5_1) x6_2).f1) ((rd_T85 (rd_L7 l0_0 x5_1) x6_2).f2) false _ A22.out).mono ?_); rintro e w31 ⟨rfl, hb⟩; have n0_ := am_ (blk_below (bu BK619.out) hb); have n1_ := am_ (below_step z43_5 hb); clear BK619 HB; have BK619 := n0_; have HB := n1_; clear n0_ n1_; (try clear hb); (try clear hb2); (try clear hk); (try clear hi)))
               go_roundg k2
               case measure => have := HK1.out; have := HK2.out; omega
               case rel => exact ⟨(x4_2), (wrap64 (x6_2 + 1)), z43_1, z43_1, H', ⟨by have := HK1.out; have := HK2.out; omega⟩, ⟨bu BK619.out⟩, ⟨z43_5⟩⟩
            ·rw [if_neg c17] at H
             exact absurd H (by simp)
           ·rw [if_neg c16] at H
            have c16b0 : decide (x6_2 < ((rd_L7 l0_0 x5_1).length : Int)) = false := decide_eq_false c16
            clear c16
            have H' := am_ H
            clear H
            have hcz32_0 : wr.cell? ⟨gb619, 0, none⟩ = some (.slice (some ad620) l0_0.length c0_0) := (blk_cell BK619.out 0).trans rfl
            have hfz32_0 := blk_frozen BK619.out 0
            have p623 : 0 ≤ (x5_1 : Int) := of_decide_eq_true z43_2
            have q623 : x5_1 < (l0_0.length : Int) := of_decide_eq_true z43_2
            obtain ⟨ad623, A623_0, c623_0, e623, hx623_0, hl623_0, hi623_0⟩ := at_L7 HR0_0.out x5_1 p623 q623
            obtain rfl : ad620 = ad623 := (by injection e623)
            replace hx623_0 := (HB.out.cell (World.block_lt_of_cell? w _ hx623_0)).trans hx623_0
            have HR623_0 := am_ hi623_0
            have HC623_0 := am_ hl623_0
            clear hi623_0 hl623_0
            replace p623 := eq_true p623
            replace q623 := eq_true q623
            go_wp2
            go_roundg k2
            case measure => have := HK1.out; have := HK2.out; omega
            case rel => exact ⟨((wrap64 (x3_1 + ((rd_L7 l0_0 x5_1).length : Int)))), (x4_2), (wrap64 (x5_1 + 1)), z43_1, z43_1, z43_1, H', ⟨by have := HK1.out; have := HK2.out; omega⟩, ⟨bu BK619.out⟩, ⟨z43_5⟩⟩
          ·rw [if_neg c15] at H
           exact absurd H (by simp)
         ·rw [if_neg c14] at H
          exact absurd H (by simp)
      ·replace c10 := Bool.eq_false_iff.mpr c10
       subst c10
       have H1 : (some false) = some r := by rw [if_neg (show ¬ (false = true) by decide)] at H; exact H
       clear H
       have H := H1
       clear H1
       obtain rfl := Option.some.inj H
       have hcz33_0 : wr.cell? ⟨gb619, 0, none⟩ = some (.slice A0_0 l0_0.length c0_0) := (blk_cell BK619.out 0).trans rfl
       have hfz33_0 := blk_frozen BK619.out 0
       have p620 : 0 ≤ (x5_1 : Int) := of_decide_eq_true z43_2
       have q620 : x5_1 < (l0_0.length : Int) := of_decide_eq_true z43_2
       obtain ⟨ad620, A620_0, c620_0, e620, hx620_0, hl620_0, hi620_0⟩ := at_L7 HR0_0.out x5_1 p620 q620
       cases e620
       replace hx620_0 := (HB.out.cell (World.block_lt_of_cell? w _ hx620_0)).trans hx620_0
       have HR620_0 := am_ hi620_0
       have HC620_0 := am_ hl620_0
       clear hi620_0 hl620_0
       replace p620 := eq_true p620
       replace q620 := eq_true q620
       go_wp2_with (first | ((with_reducible refine gate_callee (f := 93) rfl ?_); refine goesL_ (some 23) rfl rfl Try.func93 (by kernel_rfl) rfl #[.slice A620_0 (rd_L7 l0_0 x5_1).length c620_0] rfl (by (try simp only [List.map_toArray, List.map_cons, List.map_nil]); first | done | rfl | (simp only [List.length_drop, List.length_take]; rfl)) ?_; (with_reducible refine (spec_l1Thread.calls k1 _ _ (rd_L7 l0_0 x5_1) false _ ?side1 ?side2 A9.out).mono ?_); (case side1 => repeat (first | exact (Kd.C_below HR620_0.out HB.out) | (with_reducible refine Kd.C_alloc ?_ _) | (with_reducible refine Kd.C_drewN ?_ _) | (with_reducible refine Kd.C_drew ?_))); (case side2 => exact HC620_0.out); rintro e w34 ⟨rfl, hb⟩; refine ⟨_, rfl, ?_⟩; have n0_ := am_ (blk_below (bu BK619.out) hb); have n1_ := am_ (below_step z43_5 hb); clear BK619 HB; have BK619 := n0_; have HB := n1_; clear n0_ n1_; (try clear hb); (try clear hb2); (try clear hk); (try clear hi)))
       go_ret
       exact ⟨z43_3, z43_5⟩
     ·rw [if_neg c8] at H
      exact absurd H (by simp)
    ·rw [if_neg c7] at H
     have c7b0 : decide (x5_1 < (l0_0.length : Int)) = false := decide_eq_false c7
     clear c7
     by_cases c35 : x3_1 ≤ 14
     ·rw [if_pos c35] at H
      have c35b0 : decide (x3_1 ≤ 14) = true := decide_eq_true c35
      clear c35
      obtain rfl := Option.some.inj H
      have hcz36_0 : wr.cell? ⟨gb619, 0, none⟩ = some (.slice A0_0 l0_0.length c0_0) := (blk_cell BK619.out 0).trans rfl
      have hfz36_0 := blk_frozen BK619.out 0
      go_wp2
      go_ret
      exact ⟨z43_3, z43_5⟩
     ·rw [if_neg c35] at H
      have c35b0 : decide (x3_1 ≤ 14) = false := decide_eq_false c35
      clear c35
      obtain rfl := Option.some.inj H
      have hcz37_0 : wr.cell? ⟨gb619, 0, none⟩ = some (.slice A0_0 l0_0.length c0_0) := (blk_cell BK619.out 0).trans rfl
      have hfz37_0 := blk_frozen BK619.out 0
      go_wp2
      go_ret
      exact ⟨z43_3, z43_5⟩

end Go.Proofs.Ytefkbmhkhpekjaa.PB

namespace Go.Proofs.Ytefkbmhkhpekjaa.PB
open Go.RowKit Go.Proofs.YtefkbmhkhpekjaaW.PrintWords Go.Proofs.YtefkbmhkhpekjaaW.PrintLast Go.Proofs.YtefkbmhkhpekjaaW.PrintMore
attribute [local go_sem] max2_int min2_int max_two min_two max_three min_three max_four min_four   -- for this text's walks alone
open Go.Proofs.YtefkbmhkhpekjaaMine
set_option linter.unusedVariables false
set_option linter.unusedSimpArgs false

theorem z42_1 {p : Prop} (h : p := by first | rfl | (simp; done) | (simp [*]; done)) : p := h
theorem z42_2 {p : Prop} (h : p := by first | (with_reducible assumption) | assumption) : p := h
theorem z42_3 {p : Prop} (h : p := by repeat (first | (with_reducible first | exact HB.out | apply below_alloc | apply pw_below_drewN | apply below_drew1) | exact HB.out)) : p := h
theorem z42_4 {p : Prop} (h : p := by repeat (first | (with_reducible first | exact HB.out | apply below_alloc | apply pw_below_drewN | apply below_drew1 | refine below_set ?_ GE857.out) | exact HB.out)) : p := h
theorem z42_5 {p : Prop} (h : p := by repeat (first | (with_reducible first | exact HB.out | apply below_alloc | apply pw_below_drewN | apply below_drew1 | refine below_set ?_ GE857.out | refine below_set ?_ GE858.out) | exact HB.out)) : p := h
theorem z42_6 {p : Prop} (h : p := by repeat (first | (with_reducible first | exact HB.out | apply below_alloc | apply pw_below_drewN | apply below_drew1 | refine below_set ?_ GE857.out | refine below_set ?_ GE858.out | refine below_set ?_ GE859.out) | exact HB.out)) : p := h
theorem z42_7 {p : Prop} (h : p := by (with_reducible repeat (first | refine blk_drewN ?_ _ | refine blk_drew ?_ | refine blk_alloc ?_ _)); refine blk_far ?_ NB857_859.out _; (with_reducible repeat (first | refine blk_drewN ?_ _ | refine blk_drew ?_ | refine blk_alloc ?_ _)); exact BK857.out) : p := h
theorem z42_8 {p : Prop} (h : p := by (with_reducible repeat (first | refine blk_drewN ?_ _ | refine blk_drew ?_ | refine blk_alloc ?_ _)); refine blk_far ?_ NB858_859.out _; (with_reducible repeat (first | refine blk_drewN ?_ _ | refine blk_drew ?_ | refine blk_alloc ?_ _)); exact BK858.out) : p := h
/-! ### spec_TurnPlain: function 42 -/
mutual
def spec_TurnPlain.l0 : Nat → Int → List (List (S85)) → List (List (S85)) → Option ((List (List (S85))))
  | 0, _, _, _ => none
  | k + 1, x4, x858000, x860000 => if x4 < (x858000.length : Int) then ((spec_ProgOk.f k x858000).bind fun t860 => (spec_TurnPlain.j1 k x4 t860 x858000 x860000)) else (spec_TurnPlain.j1 k x4 false x858000 x860000)
def spec_TurnPlain.j1 : Nat → Int → Bool → List (List (S85)) → List (List (S85)) → Option ((List (List (S85))))
  | 0, _, _, _, _ => none
  | k + 1, x4, x16, x858000, x860000 => if x16 = true then ((some (([] : List (S85)) : List (S85))).bind fun y861 => (if 0 ≤ x4 then (if x4 < (x858000.length : Int) then (if y861.length + (rd_L7 x858000 x4).length < 5864062014805 then (spec_TurnPlain.l1 k x4 (y861 ++ (rd_L7 x858000 x4)) 0 x858000 x860000) else (none)) else (none)) else (none))) else (some x860000)
def spec_TurnPlain.l1 : Nat → Int → List (S85) → Int → List (List (S85)) → List (List (S85)) → Option ((List (List (S85))))
  | 0, _, _, _, _, _ => none
  | k + 1, x4, x5, x6, x858000, x860000 => if x6 < (x5.length : Int) then (if 0 ≤ x6 then (if ((rd_T85 x5 x6).f0) = 5 then (spec_TurnPlain.l1 k x4 (x5.set (x6 : Int).toNat (⟨2, (rd_T85 x5 x6).f1, (rd_T85 x5 x6).f2⟩ : S85)) (wrap64 (x6 + 1)) x858000 x860000) else (if ((rd_T85 x5 x6).f0) = 6 then (spec_TurnPlain.l1 k x4 (x5.set (x6 : Int).toNat (⟨1, (rd_T85 x5 x6).f1, (rd_T85 x5 x6).f2⟩ : S85)) (wrap64 (x6 + 1)) x858000 x860000) else (spec_TurnPlain.l1 k x4 x5 (wrap64 (x6 + 1)) x858000 x860000))) else (none)) else (if x860000.length < 5864062014805 then (spec_TurnPlain.l0 k (wrap64 (x4 + 1)) x858000 (x860000 ++ [x5])) else (none))
end
def spec_TurnPlain.f (k : Nat) (l0_0 : List (List (S85))) : Option ((List (List (S85)))) := spec_TurnPlain.l0 k 0 l0_0 ([] : List (List (S85)))
theorem spec_TurnPlain.mono_l : ∀ k, (∀ y0 y1 y2, LeO (spec_TurnPlain.l0 k y0 y1 y2) (spec_TurnPlain.l0 (k + 1) y0 y1 y2)) ∧ (∀ y0 y1 y2 y3, LeO (spec_TurnPlain.j1 k y0 y1 y2 y3) (spec_TurnPlain.j1 (k + 1) y0 y1 y2 y3)) ∧ (∀ y0 y1 y2 y3 y4, LeO (spec_TurnPlain.l1 k y0 y1 y2 y3 y4) (spec_TurnPlain.l1 (k + 1) y0 y1 y2 y3 y4))
  | 0 => ⟨fun _ _ _ r h => by simp [spec_TurnPlain.l0] at h, fun _ _ _ _ r h => by simp [spec_TurnPlain.j1] at h, fun _ _ _ _ _ r h => by simp [spec_TurnPlain.l1] at h⟩
  | k + 1 => by
    obtain ⟨ih0, ih1, ih2⟩ := spec_TurnPlain.mono_l k
    refine ⟨?_, ?_, ?_⟩
    · intro y0 y1 y2
      unfold spec_TurnPlain.l0
      repeat' first
      | (with_reducible exact ih0 _ _ _)
      | (with_reducible exact ih1 _ _ _ _)
      | (with_reducible exact ih2 _ _ _ _ _)
      | (with_reducible exact spec_ProgOk.mono _ _)
      | (with_reducible exact LeO.refl _)
      | (with_reducible exact LeO.none _)
      | (with_reducible refine LeO.ite ?_ ?_)
      | (with_reducible refine LeO.bind ?_ (fun _ => ?_))
      | exact ih0 _ _ _
      | exact ih1 _ _ _ _
      | exact ih2 _ _ _ _ _
      | exact spec_ProgOk.mono _ _
      | exact LeO.none _
      | refine LeO.ite ?_ ?_
      | refine LeO.bind ?_ (fun _ => ?_)
    · intro y0 y1 y2 y3
      unfold spec_TurnPlain.j1
      repeat' first
      | (with_reducible exact ih0 _ _ _)
      | (with_reducible exact ih1 _ _ _ _)
      | (with_reducible exact ih2 _ _ _ _ _)
      | (with_reducible exact spec_ProgOk.mono _ _)
      | (with_reducible exact LeO.refl _)
      | (with_reducible exact LeO.none _)
      | (with_reducible refine LeO.ite ?_ ?_)
      | (with_reducible refine LeO.bind ?_ (fun _ => ?_))
      | exact ih0 _ _ _
      | exact ih1 _ _ _ _
      | exact ih2 _ _ _ _ _
      | exact spec_ProgOk.mono _ _
      | exact LeO.none _
      | refine LeO.ite ?_ ?_
      | refine LeO.bind ?_ (fun _ => ?_)
    · intro y0 y1 y2 y3 y4
      unfold spec_TurnPlain.l1
      repeat' first
      | (with_reducible exact ih0 _ _ _)
      | (with_reducible exact ih1 _ _ _ _)
      | (with_reducible exact ih2 _ _ _ _ _)
      | (with_reducible exact spec_ProgOk.mono _ _)
      | (with_reducible exact LeO.refl _)
      | (with_reducible exact LeO.none _)
      | (with_reducible refine LeO.ite ?_ ?_)
      | (with_reducible refine LeO.bind ?_ (fun _ => ?_))
      | exact ih0 _ _ _
      | exact ih1 _ _ _ _
      | exact ih2 _ _ _ _ _
      | exact spec_ProgOk.mono _ _
      | exact LeO.none _
      | refine LeO.ite ?_ ?_
      | refine LeO.bind ?_ (fun _ => ?_)
theorem spec_TurnPlain.mono : ∀ a0 k, LeO (spec_TurnPlain.f k a0) (spec_TurnPlain.f (k + 1) a0) := by
  intro a0 k
  obtain ⟨ih0, ih1, ih2⟩ := spec_TurnPlain.mono_l k
  unfold spec_TurnPlain.f
  repeat' first
      | (with_reducible exact ih0 _ _ _)
      | (with_reducible exact ih1 _ _ _ _)
      | (with_reducible exact ih2 _ _ _ _ _)
      | (with_reducible exact spec_ProgOk.mono _ _)
      | (with_reducible exact LeO.refl _)
      | (with_reducible exact LeO.none _)
      | (with_reducible refine LeO.ite ?_ ?_)
      | (with_reducible refine LeO.bind ?_ (fun _ => ?_))
      | exact ih0 _ _ _
      | exact ih1 _ _ _ _
      | exact ih2 _ _ _ _ _
      | exact spec_ProgOk.mono _ _
      | exact LeO.none _
      | refine LeO.ite ?_ ?_
      | refine LeO.bind ?_ (fun _ => ?_)
set_option maxHeartbeats 8000000 in
set_option maxRecDepth 100000 in
theorem spec_TurnPlain.calls (k : Nat) (A0_0 : Option Addr) (c0_0 : Nat) (l0_0 : List (List (S85))) (r : List (List (S85))) (w : World) (hr0_0 : Kd.C (Kd.slice 85 k85) w A0_0 l0_0.length l0_0) (hc0_0 : l0_0.length ≤ c0_0) (h : spec_TurnPlain.f k l0_0 = some r) :
  Calls Try.prog 42 #[.agg #[.slice A0_0 l0_0.length c0_0]] w fun e w' => ∃ v0_ : Value, e = .returned (.agg #[v0_]) ∧ Kd.S (Kd.slice 85 k85) 82 w' w.heap.size (fun _ => True) v0_ r ∧ Below w.heap.size w w' := by
 have hu35 := Try.underlying35
 have HR0_0 := am_ hr0_0
 have HC0_0 := am_ hc0_0
 clear hr0_0 hc0_0
 have HB := am_ (Below.refl w.heap.size w)
 have H : (spec_TurnPlain.l0 k 0 l0_0 ([] : List (List (S85)))) = some r := h
 clear h
 have H' := am_ H
 clear H
 go_enter Try.func42, Try.ntmps42
 go_wp2_with (first | ((with_reducible refine gate_dst (N := 1) rfl ?_); refine box_event ?hg (N := 1) ?hd (cs := #[.slice A0_0 l0_0.length c0_0]) (t := 35) ?hr ?_; (case hd => rfl); (case hg => rfl); (case hr => first | (go_simp; done) | (go_simp; rfl)); intro gb857 hg w2 hbox hb; have n0_ := am_ (below_step z42_3 hb); have n1_ := am_ (hbox); have n2_ := am_ (by rw [hg]; exact (below_size z42_3) : w.heap.size ≤ gb857); have n3_ := am_ (by rw [hg]; exact (below_size z42_3) : w.heap.size ≤ gb857); clear HB; have HB := n0_; have BK857 := n1_; have GW857 := n2_; have GE857 := n3_; clear n0_ n1_ n2_ n3_; clear hb hbox hg) | ((with_reducible refine gate_dst (N := 2) rfl ?_); refine box_event ?hg (N := 2) ?hd (cs := #[.slice none 0 0]) (t := 35) ?hr ?_; (case hd => rfl); (case hg => rfl); (case hr => first | (go_simp; done) | (go_simp; rfl)); intro gb858 hg w3 hbox hb; have n0_ := am_ (blk_below (bu BK857.out) hb); have n1_ := am_ (below_step z42_4 hb); have n2_ := am_ (hbox); have n3_ := am_ (by rw [hg]; exact (below_size z42_4) : w.heap.size ≤ gb858); have n4_ := am_ (by rw [hg]; exact (below_size z42_4) : w.heap.size ≤ gb858); have n5_ := am_ (by rw [hg]; exact Nat.ne_of_lt (blk_lt (bu BK857.out)) : gb857 ≠ gb858); have n6_ := am_ (by rw [hg]; exact Nat.ne_of_gt (blk_lt (bu BK857.out)) : gb858 ≠ gb857); clear BK857 HB; have BK857 := n0_; have HB := n1_; have BK858 := n2_; have GW858 := n3_; have GE858 := n4_; have NB857_858 := n5_; have NB858_857 := n6_; clear n0_ n1_ n2_ n3_ n4_ n5_ n6_; clear hb hbox hg) | ((with_reducible refine gate_dst (N := 3) rfl ?_); refine box_event ?hg (N := 3) ?hd (cs := #[.slice none 0 0]) (t := 35) ?hr ?_; (case hd => rfl); (case hg => rfl); (case hr => first | (go_simp; done) | (go_simp; rfl)); intro gb859 hg w4 hbox hb; have n0_ := am_ (blk_below (bu BK857.out) hb); have n1_ := am_ (blk_below (bu BK858.out) hb); have n2_ := am_ (below_step z42_5 hb); have n3_ := am_ (hbox); have n4_ := am_ (by rw [hg]; exact (below_size z42_5) : w.heap.size ≤ gb859); have n5_ := am_ (by rw [hg]; exact (below_size z42_5) : w.heap.size ≤ gb859); have n6_ := am_ (by rw [hg]; exact Nat.ne_of_lt (blk_lt (bu BK857.out)) : gb857 ≠ gb859); have n7_ := am_ (by rw [hg]; exact Nat.ne_of_gt (blk_lt (bu BK857.out)) : gb859 ≠ gb857); have n8_ := am_ (by rw [hg]; exact Nat.ne_of_lt (blk_lt (bu BK858.out)) : gb858 ≠ gb859); have n9_ := am_ (by rw [hg]; exact Nat.ne_of_gt (blk_lt (bu BK858.out)) : gb859 ≠ gb858); clear BK857 BK858 HB; have BK857 := n0_; have BK858 := n1_; have HB := n2_; have BK859 := n3_; have GW859 := n4_; have GE859 := n5_; have NB857_859 := n6_; have NB859_857 := n7_; have NB858_859 := n8_; have NB859_858 := n9_; clear n0_ n1_ n2_ n3_ n4_ n5_ n6_ n7_ n8_ n9_; clear hb hbox hg; have hnb5 := NB859_857.out; have hnc5 := NB857_859.out; have hnb6 := NB859_858.out; have hnc6 := NB858_859.out; have hcz7_0 : w4.cell? ⟨gb859, 0, none⟩ = some (.slice none 0 0) := (blk_cell BK859.out 0).trans rfl; have hfz7_0 := blk_frozen BK859.out 0))
 go_loopg [4] k (fun kq v4 w' => ∃ (x4_1 : Int) (x860000_1 : List (List (S85))) (u860000 : Value), v4 = .int .i64 x4_1 ∧ Aside0 (spec_TurnPlain.l0 kq x4_1 l0_0 x860000_1 = some r) ∧ Aside0 (kq ≤ k) ∧ Aside0 (Kd.S (Kd.slice 85 k85) 82 w' w.heap.size (fun _ => True) u860000 x860000_1) ∧ Aside0 (w'.heap[gb857]? = some (.cells #[(.slice A0_0 l0_0.length c0_0)] 35 (0, 0))) ∧ Aside0 (w'.heap[gb858]? = some (.cells #[(.slice none 0 0)] 35 (0, 0))) ∧ Aside0 (w'.heap[gb859]? = some (.cells #[u860000] 35 (0, 0))) ∧ Aside0 (Below w.heap.size w w'))
 case atStart => exact ⟨(0), (([] : List (List (S85)))), (.slice none 0 0), z42_1, H', ⟨Nat.le_refl _⟩, ⟨by first | exact Kd.S_nil _ _ _ _ _ | exact Kd.N_nil _ _ _ _ _ | exact Kd.V_nil _ _ _ _ _ | exact Kd.Q_nil _ _ _ _ _ | exact Kd.R_nil _ _ _ _ _⟩, ⟨z42_7⟩, ⟨z42_8⟩, ⟨by (with_reducible repeat (first | refine blk_drewN ?_ _ | refine blk_drew ?_ | refine blk_alloc ?_ _)); refine blk_put (cs := #[.slice none 0 0]) ?_ 0 _ rfl; (with_reducible repeat (first | refine blk_drewN ?_ _ | refine blk_drew ?_ | refine blk_alloc ?_ _)); exact BK859.out⟩, ⟨z42_6⟩⟩
 case round =>
  clear H'
  obtain ⟨x4_1, x860000_1, u860000, rfl, HA, HK1, HO_860000, BK857, BK858, BK859, HB⟩ := hrel
  cases gk with
  | zero => exact absurd HA.out (by simp [spec_TurnPlain.l0])
  | succ k1 =>
   have H := HA.out
   clear HA
   simp only [spec_TurnPlain.l0] at H
   have HC8 := am_ H
   clear H
   go_upto_region 3 with (fail)
   go_cut [16] (fun v16 wc => ∃ (kq : Nat) (x16_7 : Bool), v16 = .bool x16_7 ∧ Aside0 (spec_TurnPlain.j1 kq x4_1 x16_7 l0_0 x860000_1 = some r) ∧ Aside0 (kq ≤ k1) ∧ Aside0 (Kd.S (Kd.slice 85 k85) 82 wc w.heap.size (fun _ => True) u860000 x860000_1) ∧ Aside0 (wc.heap[gb857]? = some (.cells #[(.slice A0_0 l0_0.length c0_0)] 35 (0, 0))) ∧ Aside0 (wc.heap[gb858]? = some (.cells #[(.slice none 0 0)] 35 (0, 0))) ∧ Aside0 (wc.heap[gb859]? = some (.cells #[u860000] 35 (0, 0))) ∧ Aside0 (Below w.heap.size w wc))
   case first =>
    have H := HC8.out
    clear HC8
    by_cases c9 : x4_1 < (l0_0.length : Int)
    ·rw [if_pos c9] at H
     have c9b0 : decide (x4_1 < (l0_0.length : Int)) = true := decide_eq_true c9
     clear c9
     (first | rw [c9b0] | (simp only [i64_w, i32_w]; rw [c9b0]) | skip)
     replace H := Option.bind_eq_some_iff.mp H
     obtain ⟨t860, A100, H⟩ := H
     replace H : (spec_TurnPlain.j1 k1 x4_1 t860 l0_0 x860000_1) = some r := H
     have A10 := am_ A100
     clear A100
     have H' := am_ H
     clear H
     have hnb11 := NB857_858.out
     have hnc11 := NB858_857.out
     have hnb12 := NB857_859.out
     have hnc12 := NB859_857.out
     have hcz13_0 : wr.cell? ⟨gb857, 0, none⟩ = some (.slice A0_0 l0_0.length c0_0) := (blk_cell BK857.out 0).trans rfl
     have hfz13_0 := blk_frozen BK857.out 0
     go_wp2_with (first | (go_at_call 43; (with_reducible refine (spec_ProgOk.calls k1 _ _ l0_0 t860 _ ?side1 ?side2 A10.out).mono ?_); (case side1 => repeat (first | exact (Kd.C_below HR0_0.out HB.out) | (with_reducible refine Kd.C_alloc ?_ _) | (with_reducible refine Kd.C_drewN ?_ _) | (with_reducible refine Kd.C_drew ?_))); (case side2 => exact HC0_0.out); rintro e w14 ⟨rfl, hb⟩; have n0_ := am_ (Kd.S_below (su HO_860000.out) hb); have n1_ := am_ (blk_below (bu BK857.out) hb); have n2_ := am_ (blk_below (bu BK858.out) hb); have n3_ := am_ (blk_below (bu BK859.out) hb); have n4_ := am_ (below_step z42_6 hb); clear HO_860000 BK857 BK858 BK859 HB; have HO_860000 := n0_; have BK857 := n1_; have BK858 := n2_; have BK859 := n3_; have HB := n4_; clear n0_ n1_ n2_ n3_ n4_; (try clear hb); (try clear hb2); (try clear hk); (try clear hi)))
     go_meet
     case rel => exact ⟨_, (t860), z42_1, H', ⟨by have := HK1.out; first | omega | exact Nat.le_refl _⟩, ⟨su HO_860000.out⟩, ⟨bu BK857.out⟩, ⟨bu BK858.out⟩, ⟨bu BK859.out⟩, ⟨z42_6⟩⟩
    ·rw [if_neg c9] at H
     have c9b0 : decide (x4_1 < (l0_0.length : Int)) = false := decide_eq_false c9
     clear c9
     (first | rw [c9b0] | (simp only [i64_w, i32_w]; rw [c9b0]) | skip)
     have H' := am_ H
     clear H
     have hnb15 := NB857_858.out
     have hnc15 := NB858_857.out
     have hnb16 := NB857_859.out
     have hnc16 := NB859_857.out
     have hcz17_0 : wr.cell? ⟨gb857, 0, none⟩ = some (.slice A0_0 l0_0.length c0_0) := (blk_cell BK857.out 0).trans rfl
     have hfz17_0 := blk_frozen BK857.out 0
     go_wp2
     go_meet
     case rel => exact ⟨_, (false), z42_1, H', ⟨by have := HK1.out; first | omega | exact Nat.le_refl _⟩, ⟨su HO_860000.out⟩, ⟨bu BK857.out⟩, ⟨bu BK858.out⟩, ⟨bu BK859.out⟩, ⟨z42_6⟩⟩
   case rest =>
    clear HC8
    obtain ⟨kq, x16_7, rfl, HA, HJ7, HO_860000, BK857, BK858, BK859, HB⟩ := hcut
    cases kq with
    | zero => exact absurd HA.out (by simp [spec_TurnPlain.j1])
    | succ kj7 =>
     have H := HA.out
     clear HA
     simp only [spec_TurnPlain.j1] at H
     by_cases c18 : x16_7 = true
     ·subst c18
      have H1 : ((some (([] : List (S85)) : List (S85))).bind fun y861 => (if 0 ≤ x4_1 then (if x4_1 < (l0_0.length : Int) then (if y861.length + (rd_L7 l0_0 x4_1).length < 5864062014805 then (spec_TurnPlain.l1 kj7 x4_1 (y861 ++ (rd_L7 l0_0 x4_1)) 0 l0_0 x860000_1) else (none)) else (none)) else (none))) = some r := by rw [if_pos rfl] at H; exact H
      clear H
      have H := H1
      clear H1
      obtain ⟨y861, hy861⟩ : ∃ y_ : List (S85), y_ = (([] : List (S85))) := ⟨_, rfl⟩
      replace H : (if 0 ≤ x4_1 then (if x4_1 < (l0_0.length : Int) then (if y861.length + (rd_L7 l0_0 x4_1).length < 5864062014805 then (spec_TurnPlain.l1 kj7 x4_1 (y861 ++ (rd_L7 l0_0 x4_1)) 0 l0_0 x860000_1) else (none)) else (none)) else (none)) = some r := by first | (rw [hy861]; with_reducible exact H) | (have H2_ := (Option.bind_some _ _).symm.trans H; rw [hy861]; with_reducible exact H2_) | (have H2_ := (Option.bind_some _ _).symm.trans H; with_reducible exact H2_) | with_reducible exact H | (rw [hy861]; exact H) | exact H
      have Ny861 := am_ hy861
      clear hy861
      by_cases c19 : 0 ≤ x4_1
      ·rw [if_pos c19] at H
       have c19b0 : decide (0 ≤ x4_1) = true := decide_eq_true c19
       clear c19
       by_cases c20 : x4_1 < (l0_0.length : Int)
       ·rw [if_pos c20] at H
        have c20b0 : decide (x4_1 < (l0_0.length : Int)) = true := decide_eq_true c20
        clear c20
        by_cases c21 : y861.length + (rd_L7 l0_0 x4_1).length < 5864062014805
        ·rw [if_pos c21] at H
         have LMc21 := am_ c21
         clear c21
         obtain ⟨y865, hy865⟩ : ∃ y_ : List (S85), y_ = (y861 ++ (rd_L7 l0_0 x4_1)) := ⟨_, rfl⟩
         replace H : (spec_TurnPlain.l1 kj7 x4_1 y865 0 l0_0 x860000_1) = some r := by first | (rw [hy865]; with_reducible exact H) | (have H2_ := (Option.bind_some _ _).symm.trans H; rw [hy865]; with_reducible exact H2_) | (have H2_ := (Option.bind_some _ _).symm.trans H; with_reducible exact H2_) | with_reducible exact H | (rw [hy865]; exact H) | exact H
         have Ny865 := am_ hy865
         clear hy865
         have H' := am_ H
         clear H
         go_wp2_with (first | ((with_reducible refine gate_dst (N := 19) rfl ?_); refine Kd.R_lit k85 _ 85 ?hg (N := 19) ?hd (xs := ([] : List (S85))) (inner := []) (ok := fun _ => True) (okp := fun _ => True) ?hr ?hp (fun _ hk => hk) trivial (Below.refl _ _) (Nat.le_refl _) (by simp) ?_; (case hd => rfl); (case hg => rfl); (case hr => first | (go_simp; done) | (go_simp; rfl)); (case hp => exact (Reps.none _ _)); intro v862 w22 ho23 hb hg_ hnew_; clear hg_ hnew_; (first | rw [← Ny861.out] at ho23 | (simp only [Int.reduceToNat] at ho23; rw [← Ny861.out] at ho23)); have n0_ := am_ (Kd.S_elder' (su HO_860000.out) (Kd.R_base ho23) hb); have n1_ := am_ (Kd.R_lower ho23 (below_size z42_6)); have n2_ := am_ (blk_below (bu BK857.out) hb); have n3_ := am_ (blk_below (bu BK858.out) hb); have n4_ := am_ (blk_below (bu BK859.out) hb); have n5_ := am_ (below_step z42_6 hb); clear HO_860000 BK857 BK858 BK859 HB; have HO_860000 := n0_; have HO863 := n1_; have BK857 := n2_; have BK858 := n3_; have BK859 := n4_; have HB := n5_; clear n0_ n1_ n2_ n3_ n4_ n5_; clear hb ho23; have hnb24 := NB857_858.out; have hnc24 := NB858_857.out; have hnb25 := NB857_859.out; have hnc25 := NB859_857.out; have hcz26_0 : w22.cell? ⟨gb857, 0, none⟩ = some (.slice A0_0 l0_0.length c0_0) := (blk_cell BK857.out 0).trans rfl; have hfz26_0 := blk_frozen BK857.out 0; have p864 : 0 ≤ (x4_1 : Int) := of_decide_eq_true z42_2; have q864 : x4_1 < (l0_0.length : Int) := of_decide_eq_true z42_2; obtain ⟨ad864, A864_0, c864_0, e864, hx864_0, hl864_0, hi864_0⟩ := at_L7 HR0_0.out x4_1 p864 q864; cases e864; replace hx864_0 := (HB.out.cell (World.block_lt_of_cell? w _ hx864_0)).trans hx864_0; have HR864_0 := am_ hi864_0; have HC864_0 := am_ hl864_0; clear hi864_0 hl864_0; replace p864 := eq_true p864; replace q864 := eq_true q864) | ((with_reducible refine gate_builtin (b := .append) (xs := #[.tmp 19, .tmp 24]) rfl ?_); at_builtin; refine Kd.R_append_rows k85 (w0 := w) w.heap.size rfl (.tmp 19) (.tmp 24) 82 85 (.agg #[(.int .i64 0), (.int .i64 0), (.int .i64 0)]) 24 rfl Try.underlying82 info85 rfl (by decide) (by omega) v862 y861 (rd_L7 l0_0 x4_1) _ _ _ (fun _ => True) (fun _ => False) rfl rfl ?aO ?aR (fun _ _ h => h) (fun _ h => h.elim) ?aF ?aB ?aS ?aL ?_; (case aR => repeat (first | exact (Kd.C_below HR864_0.out HB.out) | (with_reducible refine Kd.C_alloc ?_ _) | (with_reducible refine Kd.C_drewN ?_ _) | (with_reducible refine Kd.C_drew ?_))); (case aB => exact z42_6); (case aF => exact (fun _ _ => trivial)); (case aO => exact (ru HO863.out)); (case aS => exact (below_size z42_6)); (case aL => have := LMc21.out; omega); intro v866 w27 ho hb hg hat; rw [← Ny865.out] at ho; have n0_ := am_ (Kd.S_after (ok := (fun _ => True)) (su HO_860000.out) hg hat); have n1_ := am_ (blk_grown (bu BK857.out) hg (Kd.R_ne HO863.out BK857.out (by decide))); have n2_ := am_ (blk_grown (bu BK858.out) hg (Kd.R_ne HO863.out BK858.out (by decide))); have n3_ := am_ (blk_grown (bu BK859.out) hg (Kd.R_ne HO863.out BK859.out (by decide))); have n4_ := am_ (hb); have n5_ := am_ (ho); clear HO_860000 BK857 BK858 BK859 HB HO863; have HO_860000 := n0_; have BK857 := n1_; have BK858 := n2_; have BK859 := n3_; have HB := n4_; have HO867 := n5_; clear n0_ n1_ n2_ n3_ n4_ n5_; clear ho hb hg hat))
         go_loopg [6] kj7 (fun kq v6 w' => ∃ (x5_3 : List (S85)) (x6_3 : Int), v6 = .int .i64 x6_3 ∧ Aside0 (spec_TurnPlain.l1 kq x4_1 x5_3 x6_3 l0_0 x860000_1 = some r) ∧ Aside0 (kq ≤ kj7) ∧ Aside0 (Kd.R k85 85 w' w.heap.size (fun _ => True) v866 x5_3) ∧ Aside0 (Kd.S (Kd.slice 85 k85) 82 w' w.heap.size (fun k_ => some k_ ≠ (v866 : Value).ownBlock) u860000 x860000_1) ∧ Aside0 (w'.heap[gb857]? = some (.cells #[(.slice (some ad864) l0_0.length c0_0)] 35 (0, 0))) ∧ Aside0 (w'.heap[gb858]? = some (.cells #[(.slice none 0 0)] 35 (0, 0))) ∧ Aside0 (w'.heap[gb859]? = some (.cells #[u860000] 35 (0, 0))) ∧ Aside0 (Below w.heap.size w w'))
         case atStart => exact ⟨(y865), (0), z42_1, H', ⟨Nat.le_refl _⟩, ⟨ru HO867.out⟩, ⟨su (Kd.S_mono HO_860000.out (fun _ hk => hk.2))⟩, ⟨bu BK857.out⟩, ⟨bu BK858.out⟩, ⟨bu BK859.out⟩, ⟨z42_6⟩⟩
         case round =>
          clear H'
          obtain ⟨x5_3, x6_3, rfl, HA, HK3, HO_5, HO_860000, BK857, BK858, BK859, HB⟩ := hrel
          cases gk with
          | zero => exact absurd HA.out (by simp [spec_TurnPlain.l1])
          | succ k3 =>
           have H := HA.out
           clear HA
           simp only [spec_TurnPlain.l1] at H
           by_cases c28 : x6_3 < (x5_3.length : Int)
           ·rw [if_pos c28] at H
            have c28b0 : decide (x6_3 < (x5_3.length : Int)) = true := decide_eq_true c28
            clear c28
            by_cases c29 : 0 ≤ x6_3
            ·rw [if_pos c29] at H
             have c29b0 : decide (0 ≤ x6_3) = true := decide_eq_true c29
             clear c29
             by_cases c30 : ((rd_T85 x5_3 x6_3).f0) = 5
             ·rw [if_pos c30] at H
              have c30b0 : (((rd_T85 x5_3 x6_3).f0) == 5) = true := beq_iff_eq.mpr c30
              have c30b1 : (((rd_T85 x5_3 x6_3).f0) != 5) = false := bne_eq_false_iff_eq.mpr c30
              clear c30
              obtain ⟨y872, hy872⟩ : ∃ y_ : List (S85), y_ = (x5_3.set (x6_3 : Int).toNat (⟨2, (rd_T85 x5_3 x6_3).f1, (rd_T85 x5_3 x6_3).f2⟩ : S85)) := ⟨_, rfl⟩
              replace H : (spec_TurnPlain.l1 k3 x4_1 y872 (wrap64 (x6_3 + 1)) l0_0 x860000_1) = some r := by first | (rw [hy872]; with_reducible exact H) | (have H2_ := (Option.bind_some _ _).symm.trans H; rw [hy872]; with_reducible exact H2_) | (have H2_ := (Option.bind_some _ _).symm.trans H; with_reducible exact H2_) | with_reducible exact H | (rw [hy872]; exact H) | exact H
              have Ny872 := am_ hy872
              clear hy872
              have H' := am_ H
              clear H
              obtain ⟨Ao32, co32, eo32⟩ := Kd.R_slice HO_5.out
              subst eo32
              have p871 : 0 ≤ (x6_3 : Int) := of_decide_eq_true z42_2
              have q871 : x6_3 < (x5_3.length : Int) := of_decide_eq_true z42_2
              obtain ⟨ad871, e871, hx871_0, hx871_1, hx871_2⟩ := at_T85 (Kd.R_reads' HO_5.out).2.2 x6_3 p871 q871
              cases e871
              replace p871 := eq_true p871
              replace q871 := eq_true q871
              have p31 : 0 ≤ (x6_3 : Int) := of_decide_eq_true z42_2
              have q31 : (x6_3 : Int) < ((x5_3.length : Int) : Int) := of_decide_eq_true z42_2
              obtain ⟨go31, co31, eo31, gb31, gl31, cl31, HG31⟩ := Kd.R_form HO_5.out (by omega)
              (first | cases eo31 | (injection eo31 with ea_ en_ ec_; (first | subst ea_ | (injection ea_ with ea_; subst ea_)); subst ec_; clear en_))
              have GB31 := am_ gb31
              have GG31 := am_ HG31
              clear gb31 gl31 HG31
              (first | simp only [add_plain] at hx871_0 | skip)
              (first | simp only [add_plain] at hx871_1 | skip)
              (first | simp only [add_plain] at hx871_2 | skip)
              obtain ⟨ce31, hcl31, hM31, hcc31, hfr31⟩ := Kd.R_elem HO_5.out z85 (x6_3 : Int) p31 q31
              obtain rfl := k85_openM hM31
              have hx31_0 : wr.cell? ⟨go31, (x6_3 : Int).toNat * 3, none⟩ = some (.int .i64 ((rd_T85 x5_3 x6_3).f0)) := hcc31 0 _ rfl
              have hx31_1 : wr.cell? ⟨go31, (x6_3 : Int).toNat * 3 + 1, none⟩ = some (.int .i64 ((rd_T85 x5_3 x6_3).f1)) := hcc31 1 _ rfl
              have hx31_2 : wr.cell? ⟨go31, (x6_3 : Int).toNat * 3 + 2, none⟩ = some (.int .i64 ((rd_T85 x5_3 x6_3).f2)) := hcc31 2 _ rfl
              have hf31_0 : wr.frozen? ⟨go31, (x6_3 : Int).toNat * 3, none⟩ = false := hfr31 0
              have hf31_1 : wr.frozen? ⟨go31, (x6_3 : Int).toNat * 3 + 1, none⟩ = false := hfr31 1
              have hf31_2 : wr.frozen? ⟨go31, (x6_3 : Int).toNat * 3 + 2, none⟩ = false := hfr31 2
              clear hcl31 hcc31 hfr31 hM31
              replace p31 := eq_true p31
              replace q31 := eq_true q31
              have HX33 := am_ (show Kd.R k85 85 wr w.heap.size (fun _ => True) (.slice (some ⟨go31, 0, none⟩) x5_3.length co32) x5_3 from (ru HO_5.out))
              obtain ⟨ce33, hcl33, hM33, hcc33, hfr33⟩ := Kd.R_elem HX33.out z85 (x6_3 : Int) (of_decide_eq_true z42_2) (by have h_ : (x6_3 : Int) < ((x5_3.length : Int) : Int) := of_decide_eq_true z42_2; first | exact h_ | (have e_ := (Kd.R_reads' HO_5.out).1; omega) | simpa using h_)
              obtain rfl := k85_openM hM33
              have HP33 := Kd.R_seg HX33.out (x6_3 : Int) (of_decide_eq_true z42_2) (by have h_ : (x6_3 : Int) < ((x5_3.length : Int) : Int) := of_decide_eq_true z42_2; first | exact h_ | (have e_ := (Kd.R_reads' HO_5.out).1; omega) | simpa using h_) (seg := [.int .i64 2]) (j := 0) hcl33 hcc33 (show 1 ≤ 3 from by decide) (x' := (⟨2, (rd_T85 x5_3 x6_3).f1, (rd_T85 x5_3 x6_3).f2⟩ : S85)) (k85_mkM _ _ _ (⟨2, (rd_T85 x5_3 x6_3).f1, (rd_T85 x5_3 x6_3).f2⟩ : S85) ) (fun _ hk => hk)
              have hx33_0 := hcc33 0 _ rfl
              (try simp only [show (k85).sz = 3 from rfl, Nat.mul_one, Nat.add_zero] at hx33_0)
              have hf33_0 := hfr33 0
              (try simp only [show (k85).sz = 3 from rfl, Nat.mul_one, Nat.add_zero] at hf33_0)
              clear hcl33 hcc33 hfr33 hM33
              go_wp2_with (first | ((with_reducible refine gate_store (t := 3) (p := 42) rfl ?_); refine store_event (t := 3) (p := 42) (v := ?vo_w34) (w1 := (wr.setCell ⟨go31, (x6_3 : Int).toNat * 3, none⟩ (.int .i64 2))) ?hg ?ho ?hn ?hr ?_; (case ho => rfl); (case hg => rfl); (case hn => rfl); (case hr => first | (go_simp; done) | (go_simp; rfl)); intro w34 hw; have hg : wr.grownBy w34 (some go31) := (by rw [hw]; exact HP33.2); have hp_ : Kd.R k85 85 w34 w.heap.size (fun _ => True) (.slice (some ⟨go31, 0, none⟩) x5_3.length co32) y872 := (by rw [hw, Ny872.out]; exact HP33.1); clear HP33; have n0_ := am_ (hp_); have n1_ := am_ (Kd.S_after (v := (.slice (some ⟨go31, 0, none⟩) x5_3.length co32)) (v1 := (.slice (some ⟨go31, 0, none⟩) x5_3.length co32)) (ok := (fun _ => True)) (su (Kd.S_mono HO_860000.out (fun _ hk => ⟨trivial, hk⟩))) hg (.inl rfl)); have n2_ := am_ (blk_grown (bu BK857.out) hg (Kd.R_ne HO_5.out BK857.out (by decide))); have n3_ := am_ (blk_grown (bu BK858.out) hg (Kd.R_ne HO_5.out BK858.out (by decide))); have n4_ := am_ (blk_grown (bu BK859.out) hg (Kd.R_ne HO_5.out BK859.out (by decide))); have n5_ := am_ (by rw [hw]; exact below_set (HB.out) GB31.out : Below w.heap.size w w34); clear HO_5 HO_860000 BK857 BK858 BK859 HB; have HO_5 := n0_; have HO_860000 := n1_; have BK857 := n2_; have BK858 := n3_; have BK859 := n4_; have HB := n5_; clear n0_ n1_ n2_ n3_ n4_ n5_; clear hg hw hp_))
              go_roundg k3
              case measure => have := HK1.out; have := HJ7.out; have := HK3.out; omega
              case rel => exact ⟨(y872), (wrap64 (x6_3 + 1)), z42_1, H', ⟨by have := HK1.out; have := HJ7.out; have := HK3.out; omega⟩, ⟨ru HO_5.out⟩, ⟨su (Kd.S_mono HO_860000.out (fun _ hk => hk.2))⟩, ⟨bu BK857.out⟩, ⟨bu BK858.out⟩, ⟨bu BK859.out⟩, ⟨z42_6⟩⟩
             ·rw [if_neg c30] at H
              have c30b0 : (((rd_T85 x5_3 x6_3).f0) == 5) = false := beq_eq_false_iff_ne.mpr c30
              have c30b1 : (((rd_T85 x5_3 x6_3).f0) != 5) = true := bne_iff_ne.mpr c30
              by_cases c35 : ((rd_T85 x5_3 x6_3).f0) = 6
              ·rw [if_pos c35] at H
               have c35b0 : (((rd_T85 x5_3 x6_3).f0) == 6) = true := beq_iff_eq.mpr c35
               have c35b1 : (((rd_T85 x5_3 x6_3).f0) != 6) = false := bne_eq_false_iff_eq.mpr c35
               clear c35
               obtain ⟨y873, hy873⟩ : ∃ y_ : List (S85), y_ = (x5_3.set (x6_3 : Int).toNat (⟨1, (rd_T85 x5_3 x6_3).f1, (rd_T85 x5_3 x6_3).f2⟩ : S85)) := ⟨_, rfl⟩
               replace H : (spec_TurnPlain.l1 k3 x4_1 y873 (wrap64 (x6_3 + 1)) l0_0 x860000_1) = some r := by first | (rw [hy873]; with_reducible exact H) | (have H2_ := (Option.bind_some _ _).symm.trans H; rw [hy873]; with_reducible exact H2_) | (have H2_ := (Option.bind_some _ _).symm.trans H; with_reducible exact H2_) | with_reducible exact H | (rw [hy873]; exact H) | exact H
               have Ny873 := am_ hy873
               clear hy873
               have H' := am_ H
               clear H
               obtain ⟨Ao37, co37, eo37⟩ := Kd.R_slice HO_5.out
               subst eo37
               have p871 : 0 ≤ (x6_3 : Int) := of_decide_eq_true z42_2
               have q871 : x6_3 < (x5_3.length : Int) := of_decide_eq_true z42_2
               obtain ⟨ad871, e871, hx871_0, hx871_1, hx871_2⟩ := at_T85 (Kd.R_reads' HO_5.out).2.2 x6_3 p871 q871
               cases e871
               replace p871 := eq_true p871
               replace q871 := eq_true q871
               have p36 : 0 ≤ (x6_3 : Int) := of_decide_eq_true z42_2
               have q36 : (x6_3 : Int) < ((x5_3.length : Int) : Int) := of_decide_eq_true z42_2
               obtain ⟨go36, co36, eo36, gb36, gl36, cl36, HG36⟩ := Kd.R_form HO_5.out (by omega)
               (first | cases eo36 | (injection eo36 with ea_ en_ ec_; (first | subst ea_ | (injection ea_ with ea_; subst ea_)); subst ec_; clear en_))
               have GB36 := am_ gb36
               have GG36 := am_ HG36
               clear gb36 gl36 HG36
               (first | simp only [add_plain] at hx871_0 | skip)
               (first | simp only [add_plain] at hx871_1 | skip)
               (first | simp only [add_plain] at hx871_2 | skip)
               obtain ⟨ce36, hcl36, hM36, hcc36, hfr36⟩ := Kd.R_elem HO_5.out z85 (x6_3 : Int) p36 q36
               obtain rfl := k85_openM hM36
               have hx36_0 : wr.cell? ⟨go36, (x6_3 : Int).toNat * 3, none⟩ = some (.int .i64 ((rd_T85 x5_3 x6_3).f0)) := hcc36 0 _ rfl
               have hx36_1 : wr.cell? ⟨go36, (x6_3 : Int).toNat * 3 + 1, none⟩ = some (.int .i64 ((rd_T85 x5_3 x6_3).f1)) := hcc36 1 _ rfl
               have hx36_2 : wr.cell? ⟨go36, (x6_3 : Int).toNat * 3 + 2, none⟩ = some (.int .i64 ((rd_T85 x5_3 x6_3).f2)) := hcc36 2 _ rfl
               have hf36_0 : wr.frozen? ⟨go36, (x6_3 : Int).toNat * 3, none⟩ = false := hfr36 0
               have hf36_1 : wr.frozen? ⟨go36, (x6_3 : Int).toNat * 3 + 1, none⟩ = false := hfr36 1
               have hf36_2 : wr.frozen? ⟨go36, (x6_3 : Int).toNat * 3 + 2, none⟩ = false := hfr36 2
               clear hcl36 hcc36 hfr36 hM36
               replace p36 := eq_true p36
               replace q36 := eq_true q36
               have HX38 := am_ (show Kd.R k85 85 wr w.heap.size (fun _ => True) (.slice (some ⟨go36, 0, none⟩) x5_3.length co37) x5_3 from (ru HO_5.out))
               obtain ⟨ce38, hcl38, hM38, hcc38, hfr38⟩ := Kd.R_elem HX38.out z85 (x6_3 : Int) (of_decide_eq_true z42_2) (by have h_ : (x6_3 : Int) < ((x5_3.length : Int) : Int) := of_decide_eq_true z42_2; first | exact h_ | (have e_ := (Kd.R_reads' HO_5.out).1; omega) | simpa using h_)
               obtain rfl := k85_openM hM38
               have HP38 := Kd.R_seg HX38.out (x6_3 : Int) (of_decide_eq_true z42_2) (by have h_ : (x6_3 : Int) < ((x5_3.length : Int) : Int) := of_decide_eq_true z42_2; first | exact h_ | (have e_ := (Kd.R_reads' HO_5.out).1; omega) | simpa using h_) (seg := [.int .i64 1]) (j := 0) hcl38 hcc38 (show 1 ≤ 3 from by decide) (x' := (⟨1, (rd_T85 x5_3 x6_3).f1, (rd_T85 x5_3 x6_3).f2⟩ : S85)) (k85_mkM _ _ _ (⟨1, (rd_T85 x5_3 x6_3).f1, (rd_T85 x5_3 x6_3).f2⟩ : S85) ) (fun _ hk => hk)
               have hx38_0 := hcc38 0 _ rfl
               (try simp only [show (k85).sz = 3 from rfl, Nat.mul_one, Nat.add_zero] at hx38_0)
               have hf38_0 := hfr38 0
               (try simp only [show (k85).sz = 3 from rfl, Nat.mul_one, Nat.add_zero] at hf38_0)
               clear hcl38 hcc38 hfr38 hM38
               go_wp2_with (first | ((with_reducible refine gate_store (t := 3) (p := 48) rfl ?_); refine store_event (t := 3) (p := 48) (v := ?vo_w39) (w1 := (wr.setCell ⟨go36, (x6_3 : Int).toNat * 3, none⟩ (.int .i64 1))) ?hg ?ho ?hn ?hr ?_; (case ho => rfl); (case hg => rfl); (case hn => rfl); (case hr => first | (go_simp; done) | (go_simp; rfl)); intro w39 hw; have hg : wr.grownBy w39 (some go36) := (by rw [hw]; exact HP38.2); have hp_ : Kd.R k85 85 w39 w.heap.size (fun _ => True) (.slice (some ⟨go36, 0, none⟩) x5_3.length co37) y873 := (by rw [hw, Ny873.out]; exact HP38.1); clear HP38; have n0_ := am_ (hp_); have n1_ := am_ (Kd.S_after (v := (.slice (some ⟨go36, 0, none⟩) x5_3.length co37)) (v1 := (.slice (some ⟨go36, 0, none⟩) x5_3.length co37)) (ok := (fun _ => True)) (su (Kd.S_mono HO_860000.out (fun _ hk => ⟨trivial, hk⟩))) hg (.inl rfl)); have n2_ := am_ (blk_grown (bu BK857.out) hg (Kd.R_ne HO_5.out BK857.out (by decide))); have n3_ := am_ (blk_grown (bu BK858.out) hg (Kd.R_ne HO_5.out BK858.out (by decide))); have n4_ := am_ (blk_grown (bu BK859.out) hg (Kd.R_ne HO_5.out BK859.out (by decide))); have n5_ := am_ (by rw [hw]; exact below_set (HB.out) GB36.out : Below w.heap.size w w39); clear HO_5 HO_860000 BK857 BK858 BK859 HB; have HO_5 := n0_; have HO_860000 := n1_; have BK857 := n2_; have BK858 := n3_; have BK859 := n4_; have HB := n5_; clear n0_ n1_ n2_ n3_ n4_ n5_; clear hg hw hp_))
               go_roundg k3
               case measure => have := HK1.out; have := HJ7.out; have := HK3.out; omega
               case rel => exact ⟨(y873), (wrap64 (x6_3 + 1)), z42_1, H', ⟨by have := HK1.out; have := HJ7.out; have := HK3.out; omega⟩, ⟨ru HO_5.out⟩, ⟨su (Kd.S_mono HO_860000.out (fun _ hk => hk.2))⟩, ⟨bu BK857.out⟩, ⟨bu BK858.out⟩, ⟨bu BK859.out⟩, ⟨z42_6⟩⟩
              ·rw [if_neg c35] at H
               have c35b0 : (((rd_T85 x5_3 x6_3).f0) == 6) = false := beq_eq_false_iff_ne.mpr c35
               have c35b1 : (((rd_T85 x5_3 x6_3).f0) != 6) = true := bne_iff_ne.mpr c35
               have H' := am_ H
               clear H
               obtain ⟨Ao40, co40, eo40⟩ := Kd.R_slice HO_5.out
               subst eo40
               have p871 : 0 ≤ (x6_3 : Int) := of_decide_eq_true z42_2
               have q871 : x6_3 < (x5_3.length : Int) := of_decide_eq_true z42_2
               obtain ⟨ad871, e871, hx871_0, hx871_1, hx871_2⟩ := at_T85 (Kd.R_reads' HO_5.out).2.2 x6_3 p871 q871
               cases e871
               replace p871 := eq_true p871
               replace q871 := eq_true q871
               go_wp2
               go_roundg k3
               case measure => have := HK1.out; have := HJ7.out; have := HK3.out; omega
               case rel => exact ⟨(x5_3), (wrap64 (x6_3 + 1)), z42_1, H', ⟨by have := HK1.out; have := HJ7.out; have := HK3.out; omega⟩, ⟨ru HO_5.out⟩, ⟨su HO_860000.out⟩, ⟨bu BK857.out⟩, ⟨bu BK858.out⟩, ⟨bu BK859.out⟩, ⟨z42_6⟩⟩
            ·rw [if_neg c29] at H
             exact absurd H (by simp)
           ·rw [if_neg c28] at H
            have c28b0 : decide (x6_3 < (x5_3.length : Int)) = false := decide_eq_false c28
            clear c28
            by_cases c41 : x860000_1.length < 5864062014805
            ·rw [if_pos c41] at H
             have LMc41 := am_ c41
             clear c41
             obtain ⟨y868, hy868⟩ : ∃ y_ : List (List (S85)), y_ = (x860000_1 ++ [x5_3]) := ⟨_, rfl⟩
             replace H : (spec_TurnPlain.l0 k3 (wrap64 (x4_1 + 1)) l0_0 y868) = some r := by first | (rw [hy868]; with_reducible exact H) | (have H2_ := (Option.bind_some _ _).symm.trans H; rw [hy868]; with_reducible exact H2_) | (have H2_ := (Option.bind_some _ _).symm.trans H; with_reducible exact H2_) | with_reducible exact H | (rw [hy868]; exact H) | exact H
             have Ny868 := am_ hy868
             clear hy868
             have H' := am_ H
             clear H
             obtain ⟨Ao42, co42, eo42⟩ := Kd.R_slice HO_5.out
             subst eo42
             have hnb43 := NB859_857.out
             have hnc43 := NB857_859.out
             have hnb44 := NB859_858.out
             have hnc44 := NB858_859.out
             have hcz45_0 : wr.cell? ⟨gb859, 0, none⟩ = some (u860000) := (blk_cell BK859.out 0).trans rfl
             have hfz45_0 := blk_frozen BK859.out 0
             go_wp2_with (first | ((with_reducible refine gate_builtin (b := .append) (xs := #[.tmp 50, .tmp 52]) rfl ?_); at_builtin; refine Kd.S_append (Kd.slice 85 k85) (w0 := w) w.heap.size rfl (.tmp 50) (.tmp 52) 33 82 (.slice none 0 0) 24 rfl Try.underlying33 info82 rfl (by decide) (by omega) u860000 x860000_1 x5_3 [.slice Ao42 x5_3.length co42] (fun _ => True) (fun k_ => some k_ = (.slice Ao42 x5_3.length co42 : Value).ownBlock) rfl rfl ?aP (fun k_ hk_ => ((Kd.R_mono (ok' := fun k_ => ((fun _ => True)) k_ ∧ some k_ ≠ (u860000 : Value).ownBlock) (Kd.R_apart' (HO_5.out) (Kd.S_typed HO_860000.out) (by decide)) (fun k_ hk => ⟨trivial, hk.2⟩))).1 k_ hk_.symm) ?aF ?aO ?aB ?aS ?aL ?_; (case aP => exact Kd.M_row (Kd.R_mono (Kd.R_tight rfl (Kd.R_mono (ok' := fun k_ => ((fun _ => True)) k_ ∧ some k_ ≠ (u860000 : Value).ownBlock) (Kd.R_apart' (HO_5.out) (Kd.S_typed HO_860000.out) (by decide)) (fun k_ hk => ⟨trivial, hk.2⟩))) (fun _ h_ => h_))); (case aB => exact z42_6); (case aF => exact (fun _ _ => trivial)); (case aO => exact (su (Kd.S_mono HO_860000.out (fun k_ hk => ⟨trivial, fun e_ => hk e_⟩)))); (case aS => exact (below_size z42_6)); (case aL => have := LMc41.out; omega); intro v869 w46 ho hb hg hat; rw [← Ny868.out] at ho; have n0_ := am_ (blk_grown (bu BK857.out) hg (Kd.S_ne HO_860000.out BK857.out (by decide))); have n1_ := am_ (blk_grown (bu BK858.out) hg (Kd.S_ne HO_860000.out BK858.out (by decide))); have n2_ := am_ (blk_grown (bu BK859.out) hg (Kd.S_ne HO_860000.out BK859.out (by decide))); have n3_ := am_ (hb); have n4_ := am_ (ho); clear BK857 BK858 BK859 HB HO_860000 HO_5; have BK857 := n0_; have BK858 := n1_; have BK859 := n2_; have HB := n3_; have HO870 := n4_; clear n0_ n1_ n2_ n3_ n4_; clear ho hb hg hat; obtain ⟨Ao47, co47, eo47⟩ := Kd.S_slice HO870.out; subst eo47; have hcz48_0 : w46.cell? ⟨gb859, 0, none⟩ = some (u860000) := (blk_cell BK859.out 0).trans rfl; have hfz48_0 := blk_frozen BK859.out 0))
             go_roundg k3
             case measure => have := HK1.out; have := HJ7.out; have := HK3.out; omega
             case rel => exact ⟨(wrap64 (x4_1 + 1)), (y868), (.slice Ao47 y868.length co47), z42_1, H', ⟨by have := HK1.out; have := HJ7.out; have := HK3.out; omega⟩, ⟨su (Kd.S_mono (Kd.S_far (p := ⟨gb859, 0, none⟩) (Kd.S_types HO870.out BK859.out (by decide)) (fun _ hk => hk.2) (.slice Ao47 y868.length co47)) (fun _ hk => trivial))⟩, ⟨z42_7⟩, ⟨z42_8⟩, ⟨by (with_reducible repeat (first | refine blk_drewN ?_ _ | refine blk_drew ?_ | refine blk_alloc ?_ _)); refine blk_put (cs := #[u860000]) ?_ 0 _ rfl; (with_reducible repeat (first | refine blk_drewN ?_ _ | refine blk_drew ?_ | refine blk_alloc ?_ _)); exact BK859.out⟩, ⟨z42_6⟩⟩
            ·rw [if_neg c41] at H
             exact absurd H (by simp)
        ·rw [if_neg c21] at H
         exact absurd H (by simp)
       ·rw [if_neg c20] at H
        exact absurd H (by simp)
      ·rw [if_neg c19] at H
       exact absurd H (by simp)
     ·replace c18 := Bool.eq_false_iff.mpr c18
      subst c18
      have H1 : (some x860000_1) = some r := by rw [if_neg (show ¬ (false = true) by decide)] at H; exact H
      clear H
      have H := H1
      clear H1
      obtain rfl := Option.some.inj H
      have hnb49 := NB859_857.out
      have hnc49 := NB857_859.out
      have hnb50 := NB859_858.out
      have hnc50 := NB858_859.out
      have hcz51_0 : wc.cell? ⟨gb859, 0, none⟩ = some (u860000) := (blk_cell BK859.out 0).trans rfl
      have hfz51_0 := blk_frozen BK859.out 0
      obtain ⟨Ao52, co52, eo52⟩ := Kd.S_slice HO_860000.out
      subst eo52
      have hnb53 := NB858_857.out
      have hnc53 := NB857_858.out
      have hcz54_0 : wc.cell? ⟨gb858, 0, none⟩ = some (.slice none 0 0) := (blk_cell BK858.out 0).trans rfl
      have hfz54_0 := blk_frozen BK858.out 0
      go_wp2
      refine bodyPost_ret (results_cell_row rfl _ _ gb858 35 #[.slice Ao52 x860000_1.length co52] (0, 0) _ rfl (by (with_reducible repeat (first | refine blk_drewN ?_ _ | refine blk_drew ?_ | refine blk_alloc ?_ _)); refine blk_put (cs := #[.slice none 0 0]) ?_ 0 _ rfl; (with_reducible repeat (first | refine blk_drewN ?_ _ | refine blk_drew ?_ | refine blk_alloc ?_ _)); exact BK858.out) Try.underlying35 rfl (by kernel_rfl)) rfl ?_
      exact ⟨_, by first | rfl | (simp [errW_none, errW_some] <;> rfl) | (simp [*, errW_none, errW_some] <;> rfl), su (Kd.S_mono (Kd.S_far (p := ⟨gb858, 0, none⟩) (Kd.S_types HO_860000.out BK858.out (by decide)) (fun _ hk => hk.2) (.slice Ao52 x860000_1.length co52)) (fun _ hk => trivial)), z42_6⟩

end Go.Proofs.Ytefkbmhkhpekjaa.PB

namespace Go.Proofs.Ytefkbmhkhpekjaa.PB
open Go.RowKit Go.Proofs.YtefkbmhkhpekjaaW.PrintWords Go.Proofs.YtefkbmhkhpekjaaW.PrintLast Go.Proofs.YtefkbmhkhpekjaaW.PrintMore
attribute [local go_sem] max2_int min2_int max_two min_two max_three min_three max_four min_four   -- for this text's walks alone
open Go.Proofs.YtefkbmhkhpekjaaMine
set_option linter.unusedVariables false
set_option linter.unusedSimpArgs false

/-! ### laws_szDoS: function 126 -/
def laws_szDoS.f (l0 : List (S130)) (a1 : Int) : Option (Int) := if (wrap64 (a1 - (l0.length : Int))) < 0 then (some (-1)) else (some (wrap64 (a1 - (l0.length : Int))))
set_option maxHeartbeats 8000000 in
set_option maxRecDepth 100000 in
theorem laws_szDoS.calls (A0 : Option Addr) (c0 : Nat) (l0 : List (S130)) (a1 : Int) (r : Int) (w : World) (hr0 : Kd.C k130 w A0 l0.length l0) (hc0 : l0.length ≤ c0) (h : laws_szDoS.f l0 a1 = some r) :
  Calls Try.prog 126 #[.slice A0 l0.length c0, .int .i64 a1] w fun e w' => e = .returned (.int .i64 r) ∧ Drawn0 w w' := by
 have HR0 := am_ hr0
 have HC0 := am_ hc0
 clear hr0 hc0
 have H : (if (wrap64 (a1 - (l0.length : Int))) < 0 then (some (-1)) else (some (wrap64 (a1 - (l0.length : Int))))) = some r := h
 clear h
 by_cases c3 : (wrap64 (a1 - (l0.length : Int))) < 0
 ·rw [if_pos c3] at H
  have c3b0 : decide ((wrap64 (a1 - (l0.length : Int))) < 0) = true := decide_eq_true c3
  clear c3
  obtain rfl := Option.some.inj H
  go_enter Try.func126, Try.ntmps126
  go_wp2
  go_ret
  exact ⟨by first | rfl | (simp; done) | (simp [*]; done), by repeat (first | exact Drawn0.refl _ | apply Drawn0.step)⟩
 ·rw [if_neg c3] at H
  have c3b0 : decide ((wrap64 (a1 - (l0.length : Int))) < 0) = false := decide_eq_false c3
  clear c3
  obtain rfl := Option.some.inj H
  go_enter Try.func126, Try.ntmps126
  go_wp2
  go_ret
  exact ⟨by first | rfl | (simp; done) | (simp [*]; done), by repeat (first | exact Drawn0.refl _ | apply Drawn0.step)⟩

end Go.Proofs.Ytefkbmhkhpekjaa.PB

namespace Go.Proofs.Ytefkbmhkhpekjaa.PB
open Go.RowKit Go.Proofs.YtefkbmhkhpekjaaW.PrintWords Go.Proofs.YtefkbmhkhpekjaaW.PrintLast Go.Proofs.YtefkbmhkhpekjaaW.PrintMore
attribute [local go_sem] max2_int min2_int max_two min_two max_three min_three max_four min_four   -- for this text's walks alone
open Go.Proofs.YtefkbmhkhpekjaaMine
set_option linter.unusedVariables false
set_option linter.unusedSimpArgs false

theorem z94_1 {p : Prop} (h : p := by first | rfl | (simp; done) | (simp [*]; done)) : p := h
theorem z94_2 {p : Prop} (h : p := by first | (with_reducible assumption) | assumption) : p := h
theorem z94_3 {p : Prop} (h : p := by repeat (first | exact Drawn0.refl _ | apply Drawn0.step)) : p := h
/-! ### laws_szDoSS: function 94 -/
def laws_szDoSS.l0 : Nat → List (List (S130)) → Int → Int → Option (Int)
  | 0, _, _, _ => none
  | k + 1, x0, x1, x5 => if x5 < (x0.length : Int) then (if 0 ≤ x5 then ((laws_szDoS.f (rd_L13 x0 x5) x1).bind fun t899 => (if t899 < 0 then (some (-1)) else (laws_szDoSS.l0 k x0 t899 (wrap64 (x5 + 1))))) else (none)) else (some x1)
def laws_szDoSS.f (k : Nat) (l0 : List (List (S130))) (a1 : Int) : Option (Int) := if (wrap64 (a1 - (l0.length : Int))) < 0 then (some (-1)) else (laws_szDoSS.l0 k l0 (wrap64 (a1 - (l0.length : Int))) 0)
theorem laws_szDoSS.mono_l : ∀ k, (∀ y0 y1 y2, LeO (laws_szDoSS.l0 k y0 y1 y2) (laws_szDoSS.l0 (k + 1) y0 y1 y2))
  | 0 => fun _ _ _ r h => by simp [laws_szDoSS.l0] at h
  | k + 1 => by
    have ih0 := laws_szDoSS.mono_l k
    · intro y0 y1 y2
      unfold laws_szDoSS.l0
      repeat' first
      | (with_reducible exact ih0 _ _ _)
      | (with_reducible exact LeO.refl _)
      | (with_reducible exact LeO.none _)
      | (with_reducible refine LeO.ite ?_ ?_)
      | (with_reducible refine LeO.bind ?_ (fun _ => ?_))
      | exact ih0 _ _ _
      | exact LeO.none _
      | refine LeO.ite ?_ ?_
      | refine LeO.bind ?_ (fun _ => ?_)
theorem laws_szDoSS.mono : ∀ a0 a1 k, LeO (laws_szDoSS.f k a0 a1) (laws_szDoSS.f (k + 1) a0 a1) := by
  intro a0 a1 k
  have ih0 := laws_szDoSS.mono_l k
  unfold laws_szDoSS.f
  repeat' first
      | (with_reducible exact ih0 _ _ _)
      | (with_reducible exact LeO.refl _)
      | (with_reducible exact LeO.none _)
      | (with_reducible refine LeO.ite ?_ ?_)
      | (with_reducible refine LeO.bind ?_ (fun _ => ?_))
      | exact ih0 _ _ _
      | exact LeO.none _
      | refine LeO.ite ?_ ?_
      | refine LeO.bind ?_ (fun _ => ?_)
set_option maxHeartbeats 8000000 in
set_option maxRecDepth 100000 in
theorem laws_szDoSS.calls (k : Nat) (A0 : Option Addr) (c0 : Nat) (l0 : List (List (S130))) (a1 : Int) (r : Int) (w : World) (hr0 : Kd.C (Kd.slice 130 k130) w A0 l0.length l0) (hc0 : l0.length ≤ c0) (h : laws_szDoSS.f k l0 a1 = some r) :
  Calls Try.prog 94 #[.slice A0 l0.length c0, .int .i64 a1] w fun e w' => e = .returned (.int .i64 r) ∧ Drawn0 w w' := by
 have HR0 := am_ hr0
 have HC0 := am_ hc0
 clear hr0 hc0
 have H : (if (wrap64 (a1 - (l0.length : Int))) < 0 then (some (-1)) else (laws_szDoSS.l0 k l0 (wrap64 (a1 - (l0.length : Int))) 0)) = some r := h
 clear h
 by_cases c3 : (wrap64 (a1 - (l0.length : Int))) < 0
 ·rw [if_pos c3] at H
  have c3b0 : decide ((wrap64 (a1 - (l0.length : Int))) < 0) = true := decide_eq_true c3
  clear c3
  obtain rfl := Option.some.inj H
  go_enter Try.func94, Try.ntmps94
  go_wp2
  go_ret
  exact ⟨z94_1, z94_3⟩
 ·rw [if_neg c3] at H
  have c3b0 : decide ((wrap64 (a1 - (l0.length : Int))) < 0) = false := decide_eq_false c3
  clear c3
  have H' := am_ H
  clear H
  go_enter Try.func94, Try.ntmps94
  go_wp2
  go_loopg [1, 5] k (fun kq v1 v5 w' => ∃ (x1_1 : Int) (x5_1 : Int), v1 = .int .i64 x1_1 ∧ v5 = .int .i64 x5_1 ∧ Aside0 (laws_szDoSS.l0 kq l0 x1_1 x5_1 = some r) ∧ Aside0 (kq ≤ k) ∧ Drawn0 w w')
  case atStart => exact ⟨(wrap64 (a1 - (l0.length : Int))), (0), z94_1, z94_1, H', ⟨Nat.le_refl _⟩, z94_3⟩
  case round =>
   clear H'
   obtain ⟨x1_1, x5_1, rfl, rfl, HA, HK1, ⟨m1, rfl⟩⟩ := hrel
   cases gk with
   | zero => exact absurd HA.out (by simp [laws_szDoSS.l0])
   | succ k1 =>
    have H := HA.out
    clear HA
    simp only [laws_szDoSS.l0] at H
    by_cases c4 : x5_1 < (l0.length : Int)
    ·rw [if_pos c4] at H
     have c4b0 : decide (x5_1 < (l0.length : Int)) = true := decide_eq_true c4
     clear c4
     by_cases c5 : 0 ≤ x5_1
     ·rw [if_pos c5] at H
      have c5b0 : decide (0 ≤ x5_1) = true := decide_eq_true c5
      clear c5
      replace H := Option.bind_eq_some_iff.mp H
      obtain ⟨t899, A60, H⟩ := H
      replace H : (if t899 < 0 then (some (-1)) else (laws_szDoSS.l0 k1 l0 t899 (wrap64 (x5_1 + 1)))) = some r := H
      have A6 := am_ A60
      clear A60
      by_cases c7 : t899 < 0
      ·rw [if_pos c7] at H
       have c7b0 : decide (t899 < 0) = true := decide_eq_true c7
       clear c7
       obtain rfl := Option.some.inj H
       have p898 : 0 ≤ (x5_1 : Int) := of_decide_eq_true z94_2
       have q898 : x5_1 < (l0.length : Int) := of_decide_eq_true z94_2
       obtain ⟨ad898, A898_0, c898_0, e898, hx898_0, hl898_0, hi898_0⟩ := at_L13 HR0.out x5_1 p898 q898
       cases e898
       have HR898_0 := am_ hi898_0
       have HC898_0 := am_ hl898_0
       clear hi898_0 hl898_0
       replace p898 := eq_true p898
       replace q898 := eq_true q898
       go_wp2_with (first | ((with_reducible refine gate_callee (f := 126) rfl ?_); refine goesL_ (some 23) rfl rfl Try.func126 (by kernel_rfl) rfl #[.slice A898_0 (rd_L13 l0 x5_1).length c898_0, .int .i64 x1_1] rfl (by (try simp only [List.map_toArray, List.map_cons, List.map_nil]); first | done | rfl | (simp only [List.length_drop, List.length_take]; rfl)) ?_; (with_reducible refine (laws_szDoS.calls _ _ (rd_L13 l0 x5_1) x1_1 t899 _ ?side1 ?side2 A6.out).mono ?_); (case side1 => repeat (first | exact HR898_0.out | (with_reducible refine Kd.C_alloc ?_ _) | (with_reducible refine Kd.C_drewN ?_ _) | (with_reducible refine Kd.C_drew ?_))); (case side2 => exact HC898_0.out); rintro e w' ⟨rfl, ⟨nd, rfl⟩⟩; refine ⟨_, rfl, ?_⟩))
       go_ret
       exact ⟨z94_1, z94_3⟩
      ·rw [if_neg c7] at H
       have c7b0 : decide (t899 < 0) = false := decide_eq_false c7
       clear c7
       have H' := am_ H
       clear H
       have p898 : 0 ≤ (x5_1 : Int) := of_decide_eq_true z94_2
       have q898 : x5_1 < (l0.length : Int) := of_decide_eq_true z94_2
       obtain ⟨ad898, A898_0, c898_0, e898, hx898_0, hl898_0, hi898_0⟩ := at_L13 HR0.out x5_1 p898 q898
       cases e898
       have HR898_0 := am_ hi898_0
       have HC898_0 := am_ hl898_0
       clear hi898_0 hl898_0
       replace p898 := eq_true p898
       replace q898 := eq_true q898
       go_wp2_with (first | ((with_reducible refine gate_callee (f := 126) rfl ?_); refine goesL_ (some 23) rfl rfl Try.func126 (by kernel_rfl) rfl #[.slice A898_0 (rd_L13 l0 x5_1).length c898_0, .int .i64 x1_1] rfl (by (try simp only [List.map_toArray, List.map_cons, List.map_nil]); first | done | rfl | (simp only [List.length_drop, List.length_take]; rfl)) ?_; (with_reducible refine (laws_szDoS.calls _ _ (rd_L13 l0 x5_1) x1_1 t899 _ ?side1 ?side2 A6.out).mono ?_); (case side1 => repeat (first | exact HR898_0.out | (with_reducible refine Kd.C_alloc ?_ _) | (with_reducible refine Kd.C_drewN ?_ _) | (with_reducible refine Kd.C_drew ?_))); (case side2 => exact HC898_0.out); rintro e w' ⟨rfl, ⟨nd, rfl⟩⟩; refine ⟨_, rfl, ?_⟩))
       go_roundg k1
       case measure => have := HK1.out; omega
       case rel => exact ⟨(t899), (wrap64 (x5_1 + 1)), z94_1, z94_1, H', ⟨by have := HK1.out; omega⟩, z94_3⟩
     ·rw [if_neg c5] at H
      exact absurd H (by simp)
    ·rw [if_neg c4] at H
     have c4b0 : decide (x5_1 < (l0.length : Int)) = false := decide_eq_false c4
     clear c4
     obtain rfl := Option.some.inj H
     go_wp2
     go_ret
     exact ⟨z94_1, z94_3⟩

end Go.Proofs.Ytefkbmhkhpekjaa.PB

namespace Go.Proofs.Ytefkbmhkhpekjaa.PB
open Go.RowKit Go.Proofs.YtefkbmhkhpekjaaW.PrintWords Go.Proofs.YtefkbmhkhpekjaaW.PrintLast Go.Proofs.YtefkbmhkhpekjaaW.PrintMore
attribute [local go_sem] max2_int min2_int max_two min_two max_three min_three max_four min_four   -- for this text's walks alone
open Go.Proofs.YtefkbmhkhpekjaaMine
set_option linter.unusedVariables false
set_option linter.unusedSimpArgs false

theorem z44_1 {p : Prop} (h : p := by first | rfl | (simp [errW_none, errW_some] <;> rfl) | (simp [*, errW_none, errW_some] <;> rfl)) : p := h
theorem z44_2 {p : Prop} (h : p := by repeat (first | (with_reducible first | exact HB.out | apply below_alloc | apply pw_below_drewN | apply below_drew1) | exact HB.out)) : p := h
theorem z44_3 {p : Prop} (h : p := by repeat (first | (with_reducible first | exact HB.out | apply below_alloc | apply pw_below_drewN | apply below_drew1 | refine below_set ?_ GE900.out) | exact HB.out)) : p := h
/-! ### laws_szProg: function 44 -/
def laws_szProg.f (k : Nat) (l0_0 : List (List (S130))) (a1 : Int) : Option (Int) := (laws_szDoSS.f k l0_0 a1).bind fun t901 => (if t901 < 0 then (some (-1)) else (some t901))
theorem laws_szProg.mono : ∀ a0 a1 k, LeO (laws_szProg.f k a0 a1) (laws_szProg.f (k + 1) a0 a1) := by
  intro a0 a1 k
  unfold laws_szProg.f
  repeat' first
      | (with_reducible exact laws_szDoSS.mono _ _ _)
      | (with_reducible exact LeO.refl _)
      | (with_reducible exact LeO.none _)
      | (with_reducible refine LeO.ite ?_ ?_)
      | (with_reducible refine LeO.bind ?_ (fun _ => ?_))
      | exact laws_szDoSS.mono _ _ _
      | exact LeO.none _
      | refine LeO.ite ?_ ?_
      | refine LeO.bind ?_ (fun _ => ?_)
set_option maxHeartbeats 8000000 in
set_option maxRecDepth 100000 in
theorem laws_szProg.calls (k : Nat) (A0_0 : Option Addr) (c0_0 : Nat) (l0_0 : List (List (S130))) (a1 : Int) (r : Int) (w : World) (hr0_0 : Kd.C (Kd.slice 130 k130) w A0_0 l0_0.length l0_0) (hc0_0 : l0_0.length ≤ c0_0) (h : laws_szProg.f k l0_0 a1 = some r) :
  Calls Try.prog 44 #[.agg #[.slice A0_0 l0_0.length c0_0], .int .i64 a1] w fun e w' => e = .returned (.int .i64 r) ∧ Below w.heap.size w w' := by
 have hu52 := Try.underlying52
 have HR0_0 := am_ hr0_0
 have HC0_0 := am_ hc0_0
 clear hr0_0 hc0_0
 have HB := am_ (Below.refl w.heap.size w)
 have H : ((laws_szDoSS.f k l0_0 a1).bind fun t901 => (if t901 < 0 then (some (-1)) else (some t901))) = some r := h
 clear h
 replace H := Option.bind_eq_some_iff.mp H
 obtain ⟨t901, A30, H⟩ := H
 replace H : (if t901 < 0 then (some (-1)) else (some t901)) = some r := H
 have A3 := am_ A30
 clear A30
 by_cases c4 : t901 < 0
 ·rw [if_pos c4] at H
  have c4b0 : decide (t901 < 0) = true := decide_eq_true c4
  clear c4
  obtain rfl := Option.some.inj H
  go_enter Try.func44, Try.ntmps44
  go_wp2_with (first | ((with_reducible refine gate_dst (N := 2) rfl ?_); refine box_event ?hg (N := 2) ?hd (cs := #[.slice A0_0 l0_0.length c0_0]) (t := 52) ?hr ?_; (case hd => rfl); (case hg => rfl); (case hr => first | (go_simp; done) | (go_simp; rfl)); intro gb900 hg w5 hbox hb; have n0_ := am_ (below_step z44_2 hb); have n1_ := am_ (hbox); have n2_ := am_ (by rw [hg]; exact (below_size z44_2) : w.heap.size ≤ gb900); have n3_ := am_ (by rw [hg]; exact (below_size z44_2) : w.heap.size ≤ gb900); clear HB; have HB := n0_; have BK900 := n1_; have GW900 := n2_; have GE900 := n3_; clear n0_ n1_ n2_ n3_; clear hb hbox hg; have hcz6_0 : w5.cell? ⟨gb900, 0, none⟩ = some (.slice A0_0 l0_0.length c0_0) := (blk_cell BK900.out 0).trans rfl; have hfz6_0 := blk_frozen BK900.out 0) | ((with_reducible refine gate_callee (f := 94) rfl ?_); refine goesL_ (some 8) rfl rfl Try.func94 (by kernel_rfl) rfl #[.slice A0_0 l0_0.length c0_0, .int .i64 a1] rfl (by (try simp only [List.map_toArray, List.map_cons, List.map_nil]); first | done | rfl | (simp only [List.length_drop, List.length_take]; rfl)) ?_; (with_reducible refine (laws_szDoSS.calls k _ _ l0_0 a1 t901 _ ?side1 ?side2 A3.out).mono ?_); (case side1 => repeat (first | exact (Kd.C_below HR0_0.out HB.out) | (with_reducible refine Kd.C_alloc ?_ _) | (with_reducible refine Kd.C_drewN ?_ _) | (with_reducible refine Kd.C_drew ?_))); (case side2 => exact HC0_0.out); rintro e w' ⟨rfl, ⟨nd, rfl⟩⟩; refine ⟨_, rfl, ?_⟩))
  go_ret
  exact ⟨z44_1, z44_3⟩
 ·rw [if_neg c4] at H
  have c4b0 : decide (t901 < 0) = false := decide_eq_false c4
  clear c4
  obtain rfl := Option.some.inj H
  go_enter Try.func44, Try.ntmps44
  go_wp2_with (first | ((with_reducible refine gate_dst (N := 2) rfl ?_); refine box_event ?hg (N := 2) ?hd (cs := #[.slice A0_0 l0_0.length c0_0]) (t := 52) ?hr ?_; (case hd => rfl); (case hg => rfl); (case hr => first | (go_simp; done) | (go_simp; rfl)); intro gb900 hg w7 hbox hb; have n0_ := am_ (below_step z44_2 hb); have n1_ := am_ (hbox); have n2_ := am_ (by rw [hg]; exact (below_size z44_2) : w.heap.size ≤ gb900); have n3_ := am_ (by rw [hg]; exact (below_size z44_2) : w.heap.size ≤ gb900); clear HB; have HB := n0_; have BK900 := n1_; have GW900 := n2_; have GE900 := n3_; clear n0_ n1_ n2_ n3_; clear hb hbox hg; have hcz8_0 : w7.cell? ⟨gb900, 0, none⟩ = some (.slice A0_0 l0_0.length c0_0) := (blk_cell BK900.out 0).trans rfl; have hfz8_0 := blk_frozen BK900.out 0) | ((with_reducible refine gate_callee (f := 94) rfl ?_); refine goesL_ (some 8) rfl rfl Try.func94 (by kernel_rfl) rfl #[.slice A0_0 l0_0.length c0_0, .int .i64 a1] rfl (by (try simp only [List.map_toArray, List.map_cons, List.map_nil]); first | done | rfl | (simp only [List.length_drop, List.length_take]; rfl)) ?_; (with_reducible refine (laws_szDoSS.calls k _ _ l0_0 a1 t901 _ ?side1 ?side2 A3.out).mono ?_); (case side1 => repeat (first | exact (Kd.C_below HR0_0.out HB.out) | (with_reducible refine Kd.C_alloc ?_ _) | (with_reducible refine Kd.C_drewN ?_ _) | (with_reducible refine Kd.C_drew ?_))); (case side2 => exact HC0_0.out); rintro e w' ⟨rfl, ⟨nd, rfl⟩⟩; refine ⟨_, rfl, ?_⟩))
  go_ret
  exact ⟨z44_1, z44_3⟩

end Go.Proofs.Ytefkbmhkhpekjaa.PB

namespace Go.Proofs.Ytefkbmhkhpekjaa.PB
open Go.RowKit Go.Proofs.YtefkbmhkhpekjaaW.PrintWords Go.Proofs.YtefkbmhkhpekjaaW.PrintLast Go.Proofs.YtefkbmhkhpekjaaW.PrintMore
attribute [local go_sem] max2_int min2_int max_two min_two max_three min_three max_four min_four   -- for this text's walks alone
open Go.Proofs.YtefkbmhkhpekjaaMine
set_option linter.unusedVariables false
set_option linter.unusedSimpArgs false

theorem z137_1 {p : Prop} (h : p := by repeat (first | (with_reducible first | exact HB.out | apply below_alloc | apply pw_below_drewN | apply below_drew1) | exact HB.out)) : p := h
theorem z137_2 {p : Prop} (h : p := by repeat (first | (with_reducible first | exact HB.out | apply below_alloc | apply pw_below_drewN | apply below_drew1 | refine below_set ?_ GE902.out) | exact HB.out)) : p := h
theorem z137_3 {p : Prop} (h : p := by repeat (first | (with_reducible first | exact HB.out | apply below_alloc | apply pw_below_drewN | apply below_drew1 | refine below_set ?_ GE902.out | refine below_set ?_ GE903.out) | exact HB.out)) : p := h
/-! ### laws_toDo: function 137 -/
def laws_toDo.f (a0_0 : Int) (a0_1 : Int) (a0_2 : Int) : Option (Int × Int × Int) := some (a0_0, a0_1, a0_2)
set_option maxHeartbeats 8000000 in
set_option maxRecDepth 100000 in
theorem laws_toDo.calls (a0_0 : Int) (a0_1 : Int) (a0_2 : Int) (r1 : Int) (r2 : Int) (r3 : Int) (w : World) (h : laws_toDo.f a0_0 a0_1 a0_2 = some (r1, r2, r3)) :
  Calls Try.prog 137 #[.agg #[.int .i64 a0_0, .int .i64 a0_1, .int .i64 a0_2]] w fun e w' => e = .returned (.agg #[.int .i64 r1, .int .i64 r2, .int .i64 r3]) ∧ Below w.heap.size w w' := by
 have hu130 := Try.underlying130
 have hu85 := Try.underlying85
 have HB := am_ (Below.refl w.heap.size w)
 have H : (some (a0_0, a0_1, a0_2)) = some (r1, r2, r3) := h
 clear h
 simp only [Option.some.injEq, Prod.mk.injEq] at H
 obtain ⟨rfl, rfl, rfl⟩ := H
 go_enter Try.func137, Try.ntmps137
 go_wp2_with (first | ((with_reducible refine gate_dst (N := 1) rfl ?_); refine box_event ?hg (N := 1) ?hd (cs := #[.int .i64 a0_0, .int .i64 a0_1, .int .i64 a0_2]) (t := 130) ?hr ?_; (case hd => rfl); (case hg => rfl); (case hr => first | (go_simp; done) | (go_simp; rfl)); intro gb902 hg w2 hbox hb; have n0_ := am_ (below_step z137_1 hb); have n1_ := am_ (hbox); have n2_ := am_ (by rw [hg]; exact (below_size z137_1) : w.heap.size ≤ gb902); have n3_ := am_ (by rw [hg]; exact (below_size z137_1) : w.heap.size ≤ gb902); clear HB; have HB := n0_; have BK902 := n1_; have GW902 := n2_; have GE902 := n3_; clear n0_ n1_ n2_ n3_; clear hb hbox hg) | ((with_reducible refine gate_dst (N := 2) rfl ?_); refine box_event ?hg (N := 2) ?hd (cs := #[.int .i64 0, .int .i64 0, .int .i64 0]) (t := 85) ?hr ?_; (case hd => rfl); (case hg => rfl); (case hr => first | (go_simp; done) | (go_simp; rfl)); intro gb903 hg w3 hbox hb; have n0_ := am_ (blk_below (bu BK902.out) hb); have n1_ := am_ (below_step z137_2 hb); have n2_ := am_ (hbox); have n3_ := am_ (by rw [hg]; exact (below_size z137_2) : w.heap.size ≤ gb903); have n4_ := am_ (by rw [hg]; exact (below_size z137_2) : w.heap.size ≤ gb903); have n5_ := am_ (by rw [hg]; exact Nat.ne_of_lt (blk_lt (bu BK902.out)) : gb902 ≠ gb903); have n6_ := am_ (by rw [hg]; exact Nat.ne_of_gt (blk_lt (bu BK902.out)) : gb903 ≠ gb902); clear BK902 HB; have BK902 := n0_; have HB := n1_; have BK903 := n2_; have GW903 := n3_; have GE903 := n4_; have NB902_903 := n5_; have NB903_902 := n6_; clear n0_ n1_ n2_ n3_ n4_ n5_ n6_; clear hb hbox hg) | ((with_reducible refine gate_dst (N := 3) rfl ?_); refine box_event ?hg (N := 3) ?hd (cs := #[.int .i64 0, .int .i64 0, .int .i64 0]) (t := 85) ?hr ?_; (case hd => rfl); (case hg => rfl); (case hr => first | (go_simp; done) | (go_simp; rfl)); intro gb904 hg w4 hbox hb; have n0_ := am_ (blk_below (bu BK902.out) hb); have n1_ := am_ (blk_below (bu BK903.out) hb); have n2_ := am_ (below_step z137_3 hb); have n3_ := am_ (hbox); have n4_ := am_ (by rw [hg]; exact (below_size z137_3) : w.heap.size ≤ gb904); have n5_ := am_ (by rw [hg]; exact (below_size z137_3) : w.heap.size ≤ gb904); have n6_ := am_ (by rw [hg]; exact Nat.ne_of_lt (blk_lt (bu BK902.out)) : gb902 ≠ gb904); have n7_ := am_ (by rw [hg]; exact Nat.ne_of_gt (blk_lt (bu BK902.out)) : gb904 ≠ gb902); have n8_ := am_ (by rw [hg]; exact Nat.ne_of_lt (blk_lt (bu BK903.out)) : gb903 ≠ gb904); have n9_ := am_ (by rw [hg]; exact Nat.ne_of_gt (blk_lt (bu BK903.out)) : gb904 ≠ gb903); clear BK902 BK903 HB; have BK902 := n0_; have BK903 := n1_; have HB := n2_; have BK904 := n3_; have GW904 := n4_; have GE904 := n5_; have NB902_904 := n6_; have NB904_902 := n7_; have NB903_904 := n8_; have NB904_903 := n9_; clear n0_ n1_ n2_ n3_ n4_ n5_ n6_ n7_ n8_ n9_; clear hb hbox hg; have hnb5 := NB902_903.out; have hnc5 := NB903_902.out; have hnb6 := NB902_904.out; have hnc6 := NB904_902.out; have hcz7_0 : w4.cell? ⟨gb902, 0, none⟩ = some (.int .i64 a0_0) := (blk_cell BK902.out 0).trans rfl; have hcz7_1 : w4.cell? ⟨gb902, 1, none⟩ = some (.int .i64 a0_1) := (blk_cell BK902.out 1).trans rfl; have hcz7_2 : w4.cell? ⟨gb902, 2, none⟩ = some (.int .i64 a0_2) := (blk_cell BK902.out 2).trans rfl; have hfz7_0 := blk_frozen BK902.out 0; have hfz7_1 := blk_frozen BK902.out 1; have hfz7_2 := blk_frozen BK902.out 2; have hnb8 := NB904_903.out; have hnc8 := NB903_904.out; have hcz9_0 : w4.cell? ⟨gb904, 0, none⟩ = some (.int .i64 0) := (blk_cell BK904.out 0).trans rfl; have hcz9_1 : w4.cell? ⟨gb904, 1, none⟩ = some (.int .i64 0) := (blk_cell BK904.out 1).trans rfl; have hcz9_2 : w4.cell? ⟨gb904, 2, none⟩ = some (.int .i64 0) := (blk_cell BK904.out 2).trans rfl; have hfz9_0 := blk_frozen BK904.out 0; have hfz9_1 := blk_frozen BK904.out 1; have hfz9_2 := blk_frozen BK904.out 2; have hcz10_0 : w4.cell? ⟨gb903, 0, none⟩ = some (.int .i64 0) := (blk_cell BK903.out 0).trans rfl; have hcz10_1 : w4.cell? ⟨gb903, 1, none⟩ = some (.int .i64 0) := (blk_cell BK903.out 1).trans rfl; have hcz10_2 : w4.cell? ⟨gb903, 2, none⟩ = some (.int .i64 0) := (blk_cell BK903.out 2).trans rfl; have hfz10_0 := blk_frozen BK903.out 0; have hfz10_1 := blk_frozen BK903.out 1; have hfz10_2 := blk_frozen BK903.out 2))
 refine bodyPost_ret (results_cell_row rfl _ _ gb903 85 #[.int .i64 a0_0, .int .i64 a0_1, .int .i64 a0_2] (0, 0) _ rfl (by (with_reducible repeat (first | refine blk_drewN ?_ _ | refine blk_drew ?_ | refine blk_alloc ?_ _)); refine blk_put (cs := #[.int .i64 a0_0, .int .i64 a0_1, .int .i64 0]) ?_ 2 _ rfl; (with_reducible repeat (first | refine blk_drewN ?_ _ | refine blk_drew ?_ | refine blk_alloc ?_ _)); refine blk_put (cs := #[.int .i64 a0_0, .int .i64 0, .int .i64 0]) ?_ 1 _ rfl; (with_reducible repeat (first | refine blk_drewN ?_ _ | refine blk_drew ?_ | refine blk_alloc ?_ _)); refine blk_put (cs := #[.int .i64 0, .int .i64 0, .int .i64 0]) ?_ 0 _ rfl; (with_reducible repeat (first | refine blk_drewN ?_ _ | refine blk_drew ?_ | refine blk_alloc ?_ _)); refine blk_far ?_ NB903_904.out _; (with_reducible repeat (first | refine blk_drewN ?_ _ | refine blk_drew ?_ | refine blk_alloc ?_ _)); refine blk_far ?_ NB903_904.out _; (with_reducible repeat (first | refine blk_drewN ?_ _ | refine blk_drew ?_ | refine blk_alloc ?_ _)); refine blk_far ?_ NB903_904.out _; (with_reducible repeat (first | refine blk_drewN ?_ _ | refine blk_drew ?_ | refine blk_alloc ?_ _)); exact BK903.out) Try.underlying85 rfl (by kernel_rfl)) rfl ?_
 exact ⟨by first | rfl | (simp [errW_none, errW_some] <;> rfl) | (simp [*, errW_none, errW_some] <;> rfl), by repeat (first | (with_reducible first | exact HB.out | apply below_alloc | apply pw_below_drewN | apply below_drew1 | refine below_set ?_ GE902.out | refine below_set ?_ GE903.out | refine below_set ?_ GE904.out) | exact HB.out)⟩

end Go.Proofs.Ytefkbmhkhpekjaa.PB

namespace Go.Proofs.Ytefkbmhkhpekjaa.PB
open Go.RowKit Go.Proofs.YtefkbmhkhpekjaaW.PrintWords Go.Proofs.YtefkbmhkhpekjaaW.PrintLast Go.Proofs.YtefkbmhkhpekjaaW.PrintMore
attribute [local go_sem] max2_int min2_int max_two min_two max_three min_three max_four min_four   -- for this text's walks alone
open Go.Proofs.YtefkbmhkhpekjaaMine
set_option linter.unusedVariables false
set_option linter.unusedSimpArgs false

theorem z127_1 {p : Prop} (h : p := by first | (with_reducible assumption) | assumption) : p := h
theorem z127_2 {p : Prop} (h : p := by repeat (first | (with_reducible first | exact HB.out | apply below_alloc | apply pw_below_drewN | apply below_drew1) | exact HB.out)) : p := h
/-! ### laws_toDoS: function 127 -/
def laws_toDoS.l0 : Nat → List (S130) → List (S85) → Int → Option ((List (S85)))
  | 0, _, _, _ => none
  | k + 1, x0, x3, x4 => if x4 < (x0.length : Int) then (if 0 ≤ x4 then ((laws_toDo.f ((rd_T130 x0 x4).f0) ((rd_T130 x0 x4).f1) ((rd_T130 x0 x4).f2)).bind fun bt909 => (if x4 < (x3.length : Int) then (laws_toDoS.l0 k x0 (x3.set (x4 : Int).toNat (⟨bt909.1, bt909.2.1, bt909.2.2⟩ : S85)) (wrap64 (x4 + 1))) else (none))) else (none)) else (some x3)
def laws_toDoS.f (k : Nat) (l0 : List (S130)) : Option ((List (S85))) := if 0 ≤ (l0.length : Int) then (if ((l0.length : Int) : Int).toNat ≤ 11728124029610 then (laws_toDoS.l0 k l0 (List.replicate ((l0.length : Int) : Int).toNat z85) 0) else (none)) else (none)
theorem laws_toDoS.mono_l : ∀ k, (∀ y0 y1 y2, LeO (laws_toDoS.l0 k y0 y1 y2) (laws_toDoS.l0 (k + 1) y0 y1 y2))
  | 0 => fun _ _ _ r h => by simp [laws_toDoS.l0] at h
  | k + 1 => by
    have ih0 := laws_toDoS.mono_l k
    · intro y0 y1 y2
      unfold laws_toDoS.l0
      repeat' first
      | (with_reducible exact ih0 _ _ _)
      | (with_reducible exact LeO.refl _)
      | (with_reducible exact LeO.none _)
      | (with_reducible refine LeO.ite ?_ ?_)
      | (with_reducible refine LeO.bind ?_ (fun _ => ?_))
      | exact ih0 _ _ _
      | exact LeO.none _
      | refine LeO.ite ?_ ?_
      | refine LeO.bind ?_ (fun _ => ?_)
theorem laws_toDoS.mono : ∀ a0 k, LeO (laws_toDoS.f k a0) (laws_toDoS.f (k + 1) a0) := by
  intro a0 k
  have ih0 := laws_toDoS.mono_l k
  unfold laws_toDoS.f
  repeat' first
      | (with_reducible exact ih0 _ _ _)
      | (with_reducible exact LeO.refl _)
      | (with_reducible exact LeO.none _)
      | (with_reducible refine LeO.ite ?_ ?_)
      | (with_reducible refine LeO.bind ?_ (fun _ => ?_))
      | exact ih0 _ _ _
      | exact LeO.none _
      | refine LeO.ite ?_ ?_
      | refine LeO.bind ?_ (fun _ => ?_)
set_option maxHeartbeats 8000000 in
set_option maxRecDepth 100000 in
theorem laws_toDoS.calls (k : Nat) (A0 : Option Addr) (c0 : Nat) (l0 : List (S130)) (r : List (S85)) (w : World) (hr0 : Kd.C k130 w A0 l0.length l0) (hc0 : l0.length ≤ c0) (h : laws_toDoS.f k l0 = some r) :
  Calls Try.prog 127 #[.slice A0 l0.length c0] w fun e w' => ∃ v0_ : Value, e = .returned (v0_) ∧ Kd.R k85 85 w' w.heap.size (fun _ => True) v0_ r ∧ Below w.heap.size w w' := by
 have hu130 := Try.underlying130
 have hu85 := Try.underlying85
 have HR0 := am_ hr0
 have HC0 := am_ hc0
 clear hr0 hc0
 have HB := am_ (Below.refl w.heap.size w)
 have H : (if 0 ≤ (l0.length : Int) then (if ((l0.length : Int) : Int).toNat ≤ 11728124029610 then (laws_toDoS.l0 k l0 (List.replicate ((l0.length : Int) : Int).toNat z85) 0) else (none)) else (none)) = some r := h
 clear h
 by_cases c2 : 0 ≤ (l0.length : Int)
 ·rw [if_pos c2] at H
  have c2b0 := eq_true c2
  have c2b1 : decide (0 ≤ (l0.length : Int)) = true := decide_eq_true c2
  clear c2
  by_cases c3 : ((l0.length : Int) : Int).toNat ≤ 11728124029610
  ·rw [if_pos c3] at H
   have c3b0 := eq_true c3
   have c3b1 : decide (((l0.length : Int) : Int).toNat ≤ 11728124029610) = true := decide_eq_true c3
   clear c3
   obtain ⟨y905, hy905⟩ : ∃ y_ : List (S85), y_ = (List.replicate ((l0.length : Int) : Int).toNat z85) := ⟨_, rfl⟩
   replace H : (laws_toDoS.l0 k l0 y905 0) = some r := by first | (rw [hy905]; with_reducible exact H) | (have H2_ := (Option.bind_some _ _).symm.trans H; rw [hy905]; with_reducible exact H2_) | (have H2_ := (Option.bind_some _ _).symm.trans H; with_reducible exact H2_) | with_reducible exact H | (rw [hy905]; exact H) | exact H
   have Ny905 := am_ hy905
   clear hy905
   have H' := am_ H
   clear H
   go_enter Try.func127, Try.ntmps127
   go_wp2_with (first | ((with_reducible refine gate_dst (N := 7) rfl ?_); refine Kd.R_make k85 _ 85 rfl (N := 7) rfl 82 _ _ rfl (l0.length : Int) rfl rfl Try.underlying82 (.agg #[(.int .i64 0), (.int .i64 0), (.int .i64 0)]) 24 info85 rfl (by decide) (by omega) z85 (ok := fun _ => True) (okp := fun _ => True) (k85_mkM _ _ _ z85 ) (fun _ hk => hk) trivial (of_decide_eq_true z127_1) (Nat.le_trans (Nat.mul_le_mul_right _ (of_decide_eq_true z127_1 : (l0.length : Int).toNat ≤ 11728124029610)) (by omega)) (Below.refl _ _) (Nat.le_refl _) ?_; intro v906 w4 ho5 hb hg_ hnew_; clear hg_ hnew_; (first | rw [← Ny905.out] at ho5 | (simp only [Int.reduceToNat] at ho5; rw [← Ny905.out] at ho5)); have n0_ := am_ (Kd.R_lower ho5 (below_size z127_2)); have n1_ := am_ (below_step z127_2 hb); clear HB; have HO907 := n0_; have HB := n1_; clear n0_ n1_; clear hb ho5))
   go_loopg [4] k (fun kq v4 w' => ∃ (x3_1 : List (S85)) (x4_1 : Int), v4 = .int .i64 x4_1 ∧ Aside0 (laws_toDoS.l0 kq l0 x3_1 x4_1 = some r) ∧ Aside0 (kq ≤ k) ∧ Aside0 (Kd.R k85 85 w' w.heap.size (fun _ => True) v906 x3_1) ∧ Aside0 (Below w.heap.size w w'))
   case atStart => exact ⟨(y905), (0), (by first | rfl | (simp; done) | (simp [*]; done)), H', ⟨Nat.le_refl _⟩, ⟨ru HO907.out⟩, ⟨z127_2⟩⟩
   case round =>
    clear H'
    obtain ⟨x3_1, x4_1, rfl, HA, HK1, HO_3, HB⟩ := hrel
    cases gk with
    | zero => exact absurd HA.out (by simp [laws_toDoS.l0])
    | succ k1 =>
     have H := HA.out
     clear HA
     simp only [laws_toDoS.l0] at H
     by_cases c6 : x4_1 < (l0.length : Int)
     ·rw [if_pos c6] at H
      have c6b0 : decide (x4_1 < (l0.length : Int)) = true := decide_eq_true c6
      clear c6
      by_cases c7 : 0 ≤ x4_1
      ·rw [if_pos c7] at H
       have c7b0 : decide (0 ≤ x4_1) = true := decide_eq_true c7
       clear c7
       replace H := Option.bind_eq_some_iff.mp H
       obtain ⟨⟨t909, t910, t911⟩, A80, H⟩ := H
       replace H : (if x4_1 < (x3_1.length : Int) then (laws_toDoS.l0 k1 l0 (x3_1.set (x4_1 : Int).toNat (⟨t909, t910, t911⟩ : S85)) (wrap64 (x4_1 + 1))) else (none)) = some r := H
       have A8 := am_ A80
       clear A80
       by_cases c9 : x4_1 < (x3_1.length : Int)
       ·rw [if_pos c9] at H
        have c9b0 : decide (x4_1 < (x3_1.length : Int)) = true := decide_eq_true c9
        clear c9
        obtain ⟨y912, hy912⟩ : ∃ y_ : List (S85), y_ = (x3_1.set (x4_1 : Int).toNat (⟨t909, t910, t911⟩ : S85)) := ⟨_, rfl⟩
        replace H : (laws_toDoS.l0 k1 l0 y912 (wrap64 (x4_1 + 1))) = some r := by first | (rw [hy912]; with_reducible exact H) | (have H2_ := (Option.bind_some _ _).symm.trans H; rw [hy912]; with_reducible exact H2_) | (have H2_ := (Option.bind_some _ _).symm.trans H; with_reducible exact H2_) | with_reducible exact H | (rw [hy912]; exact H) | exact H
        have Ny912 := am_ hy912
        clear hy912
        have H' := am_ H
        clear H
        have p908 : 0 ≤ (x4_1 : Int) := of_decide_eq_true z127_1
        have q908 : x4_1 < (l0.length : Int) := of_decide_eq_true z127_1
        obtain ⟨ad908, e908, hx908_0, hx908_1, hx908_2⟩ := at_T130 HR0.out x4_1 p908 q908
        cases e908
        replace hx908_0 := (HB.out.cell (World.block_lt_of_cell? w _ hx908_0)).trans hx908_0
        replace hx908_1 := (HB.out.cell (World.block_lt_of_cell? w _ hx908_1)).trans hx908_1
        replace hx908_2 := (HB.out.cell (World.block_lt_of_cell? w _ hx908_2)).trans hx908_2
        replace p908 := eq_true p908
        replace q908 := eq_true q908
        go_wp2_with (first | ((with_reducible refine gate_callee (f := 137) rfl ?_); refine goesL_ (some 20) rfl rfl Try.func137 (by kernel_rfl) rfl #[.agg #[.int .i64 ((rd_T130 l0 x4_1).f0), .int .i64 ((rd_T130 l0 x4_1).f1), .int .i64 ((rd_T130 l0 x4_1).f2)]] rfl (by (try simp only [List.map_toArray, List.map_cons, List.map_nil]); first | done | rfl | (simp only [List.length_drop, List.length_take]; rfl)) ?_; (with_reducible refine (laws_toDo.calls ((rd_T130 l0 x4_1).f0) ((rd_T130 l0 x4_1).f1) ((rd_T130 l0 x4_1).f2) t909 t910 t911 _ A8.out).mono ?_); rintro e w11 ⟨rfl, hb⟩; refine ⟨_, rfl, ?_⟩; have n0_ := am_ (Kd.R_below (ru HO_3.out) hb); have n1_ := am_ (below_step z127_2 hb); clear HO_3 HB; have HO_3 := n0_; have HB := n1_; clear n0_ n1_; (try clear hb); (try clear hb2); (try clear hk); (try clear hi); have p10 : 0 ≤ (x4_1 : Int) := of_decide_eq_true z127_1; have q10 : (x4_1 : Int) < ((x3_1.length : Int) : Int) := of_decide_eq_true z127_1; obtain ⟨go10, co10, eo10, gb10, gl10, cl10, HG10⟩ := Kd.R_form HO_3.out (by omega); (first | cases eo10 | (injection eo10 with ea_ en_ ec_; (first | subst ea_ | (injection ea_ with ea_; subst ea_)); subst ec_; clear en_)); have GB10 := am_ gb10; have GG10 := am_ HG10; clear gb10 gl10 HG10; obtain ⟨ce10, hcl10, hM10, hcc10, hfr10⟩ := Kd.R_elem HO_3.out z85 (x4_1 : Int) p10 q10; obtain rfl := k85_openM hM10; have hx10_0 : w11.cell? ⟨go10, (x4_1 : Int).toNat * 3, none⟩ = some (.int .i64 ((rd_T85 x3_1 x4_1).f0)) := hcc10 0 _ rfl; have hx10_1 : w11.cell? ⟨go10, (x4_1 : Int).toNat * 3 + 1, none⟩ = some (.int .i64 ((rd_T85 x3_1 x4_1).f1)) := hcc10 1 _ rfl; have hx10_2 : w11.cell? ⟨go10, (x4_1 : Int).toNat * 3 + 2, none⟩ = some (.int .i64 ((rd_T85 x3_1 x4_1).f2)) := hcc10 2 _ rfl; have hf10_0 : w11.frozen? ⟨go10, (x4_1 : Int).toNat * 3, none⟩ = false := hfr10 0; have hf10_1 : w11.frozen? ⟨go10, (x4_1 : Int).toNat * 3 + 1, none⟩ = false := hfr10 1; have hf10_2 : w11.frozen? ⟨go10, (x4_1 : Int).toNat * 3 + 2, none⟩ = false := hfr10 2; clear hcl10 hcc10 hfr10 hM10; replace p10 := eq_true p10; replace q10 := eq_true q10; have HX12 := am_ (show Kd.R k85 85 w11 w.heap.size (fun _ => True) (.slice (some ⟨go10, 0, none⟩) x3_1.length co10) x3_1 from (ru HO_3.out)); obtain ⟨ce12, hcl12, hM12, hcc12, hfr12⟩ := Kd.R_elem HX12.out z85 (x4_1 : Int) (of_decide_eq_true z127_1) (by have h_ : (x4_1 : Int) < ((x3_1.length : Int) : Int) := of_decide_eq_true z127_1; first | exact h_ | (have e_ := (Kd.R_reads' HO_3.out).1; omega) | simpa using h_); obtain rfl := k85_openM hM12; have HP12 := Kd.R_seg HX12.out (x4_1 : Int) (of_decide_eq_true z127_1) (by have h_ : (x4_1 : Int) < ((x3_1.length : Int) : Int) := of_decide_eq_true z127_1; first | exact h_ | (have e_ := (Kd.R_reads' HO_3.out).1; omega) | simpa using h_) (seg := [.int .i64 t909, .int .i64 t910, .int .i64 t911]) (j := 0) hcl12 hcc12 (show 3 ≤ 3 from by decide) (x' := (⟨t909, t910, t911⟩ : S85)) (k85_mkM _ _ _ (⟨t909, t910, t911⟩ : S85) ) (fun _ hk => hk); have hx12_0 := hcc12 0 _ rfl; (try simp only [show (k85).sz = 3 from rfl, Nat.mul_one, Nat.add_zero] at hx12_0); have hf12_0 := hfr12 0; (try simp only [show (k85).sz = 3 from rfl, Nat.mul_one, Nat.add_zero] at hf12_0); have hx12_1 := hcc12 1 _ rfl; (try simp only [show (k85).sz = 3 from rfl, Nat.mul_one, Nat.add_zero] at hx12_1); have hf12_1 := hfr12 1; (try simp only [show (k85).sz = 3 from rfl, Nat.mul_one, Nat.add_zero] at hf12_1); have hx12_2 := hcc12 2 _ rfl; (try simp only [show (k85).sz = 3 from rfl, Nat.mul_one, Nat.add_zero] at hx12_2); have hf12_2 := hfr12 2; (try simp only [show (k85).sz = 3 from rfl, Nat.mul_one, Nat.add_zero] at hf12_2); clear hcl12 hcc12 hfr12 hM12) | ((with_reducible refine gate_store (t := 85) (p := 21) rfl ?_); refine store_event (t := 85) (p := 21) (v := ?vo_w13) (w1 := (((w11.setCell ⟨go10, (x4_1 : Int).toNat * 3, none⟩ (.int .i64 t909)).setCell ⟨go10, (x4_1 : Int).toNat * 3 + 1, none⟩ (.int .i64 t910)).setCell ⟨go10, (x4_1 : Int).toNat * 3 + 2, none⟩ (.int .i64 t911))) ?hg ?ho ?hn ?hr ?_; (case ho => rfl); (case hg => rfl); (case hn => rfl); (case hr => first | (go_simp; done) | (go_simp; rfl)); intro w13 hw; have hg : w11.grownBy w13 (some go10) := (by rw [hw]; exact HP12.2); have hp_ : Kd.R k85 85 w13 w.heap.size (fun _ => True) (.slice (some ⟨go10, 0, none⟩) x3_1.length co10) y912 := (by rw [hw, Ny912.out]; exact HP12.1); clear HP12; have n0_ := am_ (hp_); have n1_ := am_ (by rw [hw]; exact below_set (below_set (below_set (HB.out) GB10.out) GB10.out) GB10.out : Below w.heap.size w w13); clear HO_3 HB; have HO_3 := n0_; have HB := n1_; clear n0_ n1_; clear hg hw hp_))
        go_roundg k1
        case measure => have := HK1.out; omega
        case rel => exact ⟨(y912), (wrap64 (x4_1 + 1)), (by first | rfl | (simp; done) | (simp [*]; done)), H', ⟨by have := HK1.out; omega⟩, ⟨ru HO_3.out⟩, ⟨z127_2⟩⟩
       ·rw [if_neg c9] at H
        exact absurd H (by simp)
      ·rw [if_neg c7] at H
       exact absurd H (by simp)
     ·rw [if_neg c6] at H
      have c6b0 : decide (x4_1 < (l0.length : Int)) = false := decide_eq_false c6
      clear c6
      obtain rfl := Option.some.inj H
      go_wp2
      go_ret
      exact ⟨_, by first | rfl | (simp [errW_none, errW_some] <;> rfl) | (simp [*, errW_none, errW_some] <;> rfl), ru HO_3.out, z127_2⟩
  ·rw [if_neg c3] at H
   exact absurd H (by simp)
 ·rw [if_neg c2] at H
  exact absurd H (by simp)

end Go.Proofs.Ytefkbmhkhpekjaa.PB

namespace Go.Proofs.Ytefkbmhkhpekjaa.PB
open Go.RowKit Go.Proofs.YtefkbmhkhpekjaaW.PrintWords Go.Proofs.YtefkbmhkhpekjaaW.PrintLast Go.Proofs.YtefkbmhkhpekjaaW.PrintMore
attribute [local go_sem] max2_int min2_int max_two min_two max_three min_three max_four min_four   -- for this text's walks alone
open Go.Proofs.YtefkbmhkhpekjaaMine
set_option linter.unusedVariables false
set_option linter.unusedSimpArgs false

/-! ### laws_toDoSS: function 95 -/
theorem zq95_1 {p : Prop} (h : p := by first | (with_reducible assumption) | assumption) : p := h
theorem zq95_2 {p : Prop} (h : p := by repeat (first | (with_reducible first | exact HB.out | apply below_alloc | apply pw_below_drewN | apply below_drew1) | exact HB.out)) : p := h
def laws_toDoSS.l0 : Nat → List (List (S130)) → List (List (S85)) → Int → Option ((List (List (S85))))
  | 0, _, _, _ => none
  | k + 1, x0, x3, x4 => if x4 < (x0.length : Int) then (if 0 ≤ x4 then ((laws_toDoS.f k (rd_L13 x0 x4)).bind fun t917 => (if x4 < (x3.length : Int) then (laws_toDoSS.l0 k x0 (x3.set (x4 : Int).toNat t917) (wrap64 (x4 + 1))) else (none))) else (none)) else (some x3)
def laws_toDoSS.f (k : Nat) (l0 : List (List (S130))) : Option ((List (List (S85)))) := if 0 ≤ (l0.length : Int) then (if ((l0.length : Int) : Int).toNat ≤ 11728124029610 then (laws_toDoSS.l0 k l0 (List.replicate ((l0.length : Int) : Int).toNat []) 0) else (none)) else (none)
theorem laws_toDoSS.mono_l : ∀ k, (∀ y0 y1 y2, LeO (laws_toDoSS.l0 k y0 y1 y2) (laws_toDoSS.l0 (k + 1) y0 y1 y2))
  | 0 => fun _ _ _ r h => by simp [laws_toDoSS.l0] at h
  | k + 1 => by
    have ih0 := laws_toDoSS.mono_l k
    · intro y0 y1 y2
      unfold laws_toDoSS.l0
      repeat' first
      | (with_reducible exact ih0 _ _ _)
      | (with_reducible exact laws_toDoS.mono _ _)
      | (with_reducible exact LeO.refl _)
      | (with_reducible exact LeO.none _)
      | (with_reducible refine LeO.ite ?_ ?_)
      | (with_reducible refine LeO.bind ?_ (fun _ => ?_))
      | exact ih0 _ _ _
      | exact laws_toDoS.mono _ _
      | exact LeO.none _
      | refine LeO.ite ?_ ?_
      | refine LeO.bind ?_ (fun _ => ?_)
theorem laws_toDoSS.mono : ∀ a0 k, LeO (laws_toDoSS.f k a0) (laws_toDoSS.f (k + 1) a0) := by
  intro a0 k
  have ih0 := laws_toDoSS.mono_l k
  unfold laws_toDoSS.f
  repeat' first
      | (with_reducible exact ih0 _ _ _)
      | (with_reducible exact laws_toDoS.mono _ _)
      | (with_reducible exact LeO.refl _)
      | (with_reducible exact LeO.none _)
      | (with_reducible refine LeO.ite ?_ ?_)
      | (with_reducible refine LeO.bind ?_ (fun _ => ?_))
      | exact ih0 _ _ _
      | exact laws_toDoS.mono _ _
      | exact LeO.none _
      | refine LeO.ite ?_ ?_
      | refine LeO.bind ?_ (fun _ => ?_)
set_option maxHeartbeats 8000000 in
set_option maxRecDepth 100000 in
theorem laws_toDoSS.calls (k : Nat) (A0 : Option Addr) (c0 : Nat) (l0 : List (List (S130))) (r : List (List (S85))) (w : World) (hr0 : Kd.C (Kd.slice 130 k130) w A0 l0.length l0) (hc0 : l0.length ≤ c0) (h : laws_toDoSS.f k l0 = some r) :
  Calls Try.prog 95 #[.slice A0 l0.length c0] w fun e w' => ∃ v0_ : Value, e = .returned (v0_) ∧ Kd.S (Kd.slice 85 k85) 82 w' w.heap.size (fun _ => True) v0_ r ∧ Below w.heap.size w w' := by
 have HR0 := am_ hr0
 have HC0 := am_ hc0
 clear hr0 hc0
 have HB := am_ (Below.refl w.heap.size w)
 have H : (if 0 ≤ (l0.length : Int) then (if ((l0.length : Int) : Int).toNat ≤ 11728124029610 then (laws_toDoSS.l0 k l0 (List.replicate ((l0.length : Int) : Int).toNat []) 0) else (none)) else (none)) = some r := h
 clear h
 by_cases c2 : 0 ≤ (l0.length : Int)
 ·rw [if_pos c2] at H
  have c2b0 := eq_true c2
  have c2b1 : decide (0 ≤ (l0.length : Int)) = true := decide_eq_true c2
  clear c2
  by_cases c3 : ((l0.length : Int) : Int).toNat ≤ 11728124029610
  ·rw [if_pos c3] at H
   have c3b0 := eq_true c3
   have c3b1 : decide (((l0.length : Int) : Int).toNat ≤ 11728124029610) = true := decide_eq_true c3
   clear c3
   obtain ⟨y913, hy913⟩ : ∃ y_ : List (List (S85)), y_ = (List.replicate ((l0.length : Int) : Int).toNat []) := ⟨_, rfl⟩
   replace H : (laws_toDoSS.l0 k l0 y913 0) = some r := by first | (rw [hy913]; with_reducible exact H) | (have H2_ := (Option.bind_some _ _).symm.trans H; rw [hy913]; with_reducible exact H2_) | (have H2_ := (Option.bind_some _ _).symm.trans H; with_reducible exact H2_) | with_reducible exact H | (rw [hy913]; exact H) | exact H
   have Ny913 := am_ hy913
   clear hy913
   have H' := am_ H
   clear H
   go_enter Try.func95, Try.ntmps95
   go_wp2_with (first | ((with_reducible refine gate_dst (N := 7) rfl ?_); refine Kd.S_make (Kd.slice 85 k85) _ 82 rfl (N := 7) rfl 33 _ _ rfl (l0.length : Int) rfl rfl Try.underlying33 (.slice none 0 0) 24 info82 rfl (by decide) (by omega) [] (ok := fun _ => True) (okp := fun _ => True) ⟨_, rfl, Kd.R_nil _ _ _ _ _⟩ (fun _ hk => hk) trivial (of_decide_eq_true zq95_1) (Nat.le_trans (Nat.mul_le_mul_right _ (of_decide_eq_true zq95_1 : (l0.length : Int).toNat ≤ 11728124029610)) (by omega)) (Below.refl _ _) (Nat.le_refl _) ?_; intro v914 w4 ho5 hb hg_ hnew_; clear hg_ hnew_; (first | rw [← Ny913.out] at ho5 | (simp only [Int.reduceToNat] at ho5; rw [← Ny913.out] at ho5)); have n0_ := am_ (Kd.S_lower ho5 (below_size zq95_2)); have n1_ := am_ (below_step zq95_2 hb); clear HB; have HO915 := n0_; have HB := n1_; clear n0_ n1_; clear hb ho5))
   go_loopg [4] k (fun kq v4 w' => ∃ (x3_1 : List (List (S85))) (x4_1 : Int), v4 = .int .i64 x4_1 ∧ Aside0 (laws_toDoSS.l0 kq l0 x3_1 x4_1 = some r) ∧ Aside0 (kq ≤ k) ∧ Aside0 (Kd.S (Kd.slice 85 k85) 82 w' w.heap.size (fun _ => True) v914 x3_1) ∧ Aside0 (Below w.heap.size w w'))
   case atStart => exact ⟨(y913), (0), (by first | rfl | (simp; done) | (simp [*]; done)), H', ⟨Nat.le_refl _⟩, ⟨su HO915.out⟩, ⟨zq95_2⟩⟩
   case round =>
    clear H' HO915 HB
    obtain ⟨x3_1, x4_1, rfl, HA, HK1, HO_3, HB⟩ := hrel
    cases gk with
    | zero => exact absurd HA.out (by simp [laws_toDoSS.l0])
    | succ k1 =>
     have H := HA.out
     clear HA
     simp only [laws_toDoSS.l0] at H
     by_cases c6 : x4_1 < (l0.length : Int)
     · rw [if_pos c6] at H
       by_cases c7 : 0 ≤ x4_1
       rotate_left
       · rw [if_neg c7] at H; cases H
       rw [if_pos c7] at H
       obtain ⟨t, A80, H⟩ := Option.bind_eq_some_iff.mp H
       by_cases c9 : x4_1 < (x3_1.length : Int)
       rotate_left
       · rw [if_neg c9] at H; cases H
       rw [if_pos c9] at H
       have A8 := am_ A80
       have HN := am_ H
       have b6 := decide_eq_true c6
       have b9 := decide_eq_true c9
       clear A80 H
       obtain ⟨go, cap, eV, hgo0, hgol, cells, hcells⟩ := Kd.S_form HO_3.out (by omega)
       subst eV
       obtain ⟨ad, Ai, ci, rfl, hx, hl, hi⟩ := at_L13 (Kd.C_below HR0.out HB.out) x4_1 c7 c6
       have HI := am_ hi
       have LI := am_ hl
       have GL := am_ hgol
       have BG := am_ hcells
       clear hi hl hgol hcells
       go_wp2_with (go_at_call 127; refine park ?_)
       clear hx
       refine ⟨?_⟩
       refine (laws_toDoS.calls k1 _ _ (rd_L13 l0 x4_1) t _ HI.out LI.out A8.out).mono ?_
       rintro e w2 ⟨v, rfl, hR, hb⟩
       obtain ⟨Av, cv, rfl⟩ := Kd.R_slice hR
       have hS2 := Kd.S_mono (ok' := fun k => True ∧ ¬ wr.heap.size ≤ k) (Kd.S_below (Kd.S_bound HO_3.out) hb) (fun k hk => ⟨trivial, by have := hk.2.2.1; omega⟩)
       obtain ⟨oki, cs, hlen, hM, hcc, hoki, hH⟩ := Kd.S_lend hS2 [] x4_1 c7 c9
       obtain ⟨u, rfl, hRu⟩ := (show (Kd.slice 85 k85).M w2 w.heap.size oki (x3_1.getD x4_1.toNat []) cs from hM)
       have hcu : w2.cell? ⟨go, x4_1.toNat, none⟩ = some u := by
         have h1 := hcc 0 _ rfl
         rwa [show x4_1.toNat * (Kd.slice 85 k85).sz + 0 = x4_1.toNat from by show x4_1.toNat * 1 + 0 = _; omega] at h1
       have hfu := blk_frozen (blk_below BG.out hb) x4_1.toNat
       obtain ⟨hSn, hgr⟩ := Kd.S_seg (okg := fun k => wr.heap.size ≤ k) hH c7 c9 (seg := [Value.slice Av t.length cv]) (j := 0) (x' := t) (okp := fun k => wr.heap.size ≤ k) (Nat.le_refl 1) (Kd.M_row (Kd.R_lower (Kd.R_mono (Kd.R_bound hR) (fun k hk => hk.2.1)) HB.out.size)) (fun k hk => .inr hk) (fun k hk => ⟨trivial, by have := GL.out; omega⟩)
       have HSn := am_ (show Kd.S (Kd.slice 85 k85) 82 (w2.setCell ⟨go, x4_1.toNat, none⟩ (.slice Av t.length cv)) w.heap.size (fun _ => True) (.slice (some ⟨go, 0, none⟩) x3_1.length cap) (x3_1.set x4_1.toNat t) from by
         have h := hSn
         rw [show x4_1.toNat * (Kd.slice 85 k85).sz + 0 = x4_1.toNat from by show x4_1.toNat * 1 + 0 = _; omega] at h
         exact h)
       have HB2 := am_ (below_then HB.out HB.out.size hb)
       have GO := am_ hgo0
       clear hSn hgr hS2 hlen hM hcc hoki hH hRu hR hb HO_3 BG GL hgo0
       go_wp2_with fail
       clear hcu hfu
       have hgo := GO.out
       go_roundg k1
       case measure => have := HK1.out; omega
       case rel => exact ⟨_, _, rfl, HN, ⟨by have := HK1.out; omega⟩, HSn, ⟨below_set HB2.out hgo⟩⟩
     · rw [if_neg c6] at H
       have c6b0 : decide (x4_1 < (l0.length : Int)) = false := decide_eq_false c6
       clear c6
       obtain rfl := Option.some.inj H
       go_wp2
       go_ret
       exact ⟨_, rfl, HO_3.out, HB.out⟩
  ·rw [if_neg c3] at H
   exact absurd H (by simp)
 ·rw [if_neg c2] at H
  exact absurd H (by simp)



end Go.Proofs.Ytefkbmhkhpekjaa.PB

namespace Go.Proofs.Ytefkbmhkhpekjaa.PB
open Go.RowKit Go.Proofs.YtefkbmhkhpekjaaW.PrintWords Go.Proofs.YtefkbmhkhpekjaaW.PrintLast Go.Proofs.YtefkbmhkhpekjaaW.PrintMore
attribute [local go_sem] max2_int min2_int max_two min_two max_three min_three max_four min_four   -- for this text's walks alone
open Go.Proofs.YtefkbmhkhpekjaaMine
set_option linter.unusedVariables false
set_option linter.unusedSimpArgs false

theorem z45_1 {p : Prop} (h : p := by repeat (first | (with_reducible first | exact HB.out | apply below_alloc | apply pw_below_drewN | apply below_drew1) | exact HB.out)) : p := h
theorem z45_2 {p : Prop} (h : p := by repeat (first | (with_reducible first | exact HB.out | apply below_alloc | apply pw_below_drewN | apply below_drew1 | refine below_set ?_ GE921.out) | exact HB.out)) : p := h
theorem z45_3 {p : Prop} (h : p := by repeat (first | (with_reducible first | exact HB.out | apply below_alloc | apply pw_below_drewN | apply below_drew1 | refine below_set ?_ GE921.out | refine below_set ?_ GE922.out) | exact HB.out)) : p := h
theorem z45_4 {p : Prop} (h : p := by repeat (first | (with_reducible first | exact HB.out | apply below_alloc | apply pw_below_drewN | apply below_drew1 | refine below_set ?_ GE921.out | refine below_set ?_ GE922.out | refine below_set ?_ GE923.out) | exact HB.out)) : p := h
/-! ### laws_toProg: function 45 -/
def laws_toProg.f (k : Nat) (l0_0 : List (List (S130))) : Option ((List (List (S85)))) := (laws_toDoSS.f k l0_0).bind fun t924 => (some t924)
theorem laws_toProg.mono : ∀ a0 k, LeO (laws_toProg.f k a0) (laws_toProg.f (k + 1) a0) := by
  intro a0 k
  unfold laws_toProg.f
  repeat' first
      | (with_reducible exact laws_toDoSS.mono _ _)
      | (with_reducible exact LeO.refl _)
      | (with_reducible exact LeO.none _)
      | (with_reducible refine LeO.ite ?_ ?_)
      | (with_reducible refine LeO.bind ?_ (fun _ => ?_))
      | exact laws_toDoSS.mono _ _
      | exact LeO.none _
      | refine LeO.ite ?_ ?_
      | refine LeO.bind ?_ (fun _ => ?_)
set_option maxHeartbeats 8000000 in
set_option maxRecDepth 100000 in
theorem laws_toProg.calls (k : Nat) (A0_0 : Option Addr) (c0_0 : Nat) (l0_0 : List (List (S130))) (r : List (List (S85))) (w : World) (hr0_0 : Kd.C (Kd.slice 130 k130) w A0_0 l0_0.length l0_0) (hc0_0 : l0_0.length ≤ c0_0) (h : laws_toProg.f k l0_0 = some r) :
  Calls Try.prog 45 #[.agg #[.slice A0_0 l0_0.length c0_0]] w fun e w' => ∃ v0_ : Value, e = .returned (.agg #[v0_]) ∧ Kd.S (Kd.slice 85 k85) 82 w' w.heap.size (fun _ => True) v0_ r ∧ Below w.heap.size w w' := by
 have hu52 := Try.underlying52
 have hu35 := Try.underlying35
 have HR0_0 := am_ hr0_0
 have HC0_0 := am_ hc0_0
 clear hr0_0 hc0_0
 have HB := am_ (Below.refl w.heap.size w)
 have H : ((laws_toDoSS.f k l0_0).bind fun t924 => (some t924)) = some r := h
 clear h
 replace H := Option.bind_eq_some_iff.mp H
 obtain ⟨t924, A20, H⟩ := H
 replace H : (some t924) = some r := H
 have A2 := am_ A20
 clear A20
 obtain rfl := Option.some.inj H
 go_enter Try.func45, Try.ntmps45
 go_wp2_with (first | ((with_reducible refine gate_dst (N := 1) rfl ?_); refine box_event ?hg (N := 1) ?hd (cs := #[.slice A0_0 l0_0.length c0_0]) (t := 52) ?hr ?_; (case hd => rfl); (case hg => rfl); (case hr => first | (go_simp; done) | (go_simp; rfl)); intro gb921 hg w3 hbox hb; have n0_ := am_ (below_step z45_1 hb); have n1_ := am_ (hbox); have n2_ := am_ (by rw [hg]; exact (below_size z45_1) : w.heap.size ≤ gb921); have n3_ := am_ (by rw [hg]; exact (below_size z45_1) : w.heap.size ≤ gb921); clear HB; have HB := n0_; have BK921 := n1_; have GW921 := n2_; have GE921 := n3_; clear n0_ n1_ n2_ n3_; clear hb hbox hg) | ((with_reducible refine gate_dst (N := 2) rfl ?_); refine box_event ?hg (N := 2) ?hd (cs := #[.slice none 0 0]) (t := 35) ?hr ?_; (case hd => rfl); (case hg => rfl); (case hr => first | (go_simp; done) | (go_simp; rfl)); intro gb922 hg w4 hbox hb; have n0_ := am_ (blk_below (bu BK921.out) hb); have n1_ := am_ (below_step z45_2 hb); have n2_ := am_ (hbox); have n3_ := am_ (by rw [hg]; exact (below_size z45_2) : w.heap.size ≤ gb922); have n4_ := am_ (by rw [hg]; exact (below_size z45_2) : w.heap.size ≤ gb922); have n5_ := am_ (by rw [hg]; exact Nat.ne_of_lt (blk_lt (bu BK921.out)) : gb921 ≠ gb922); have n6_ := am_ (by rw [hg]; exact Nat.ne_of_gt (blk_lt (bu BK921.out)) : gb922 ≠ gb921); clear BK921 HB; have BK921 := n0_; have HB := n1_; have BK922 := n2_; have GW922 := n3_; have GE922 := n4_; have NB921_922 := n5_; have NB922_921 := n6_; clear n0_ n1_ n2_ n3_ n4_ n5_ n6_; clear hb hbox hg) | ((with_reducible refine gate_dst (N := 3) rfl ?_); refine box_event ?hg (N := 3) ?hd (cs := #[.slice none 0 0]) (t := 35) ?hr ?_; (case hd => rfl); (case hg => rfl); (case hr => first | (go_simp; done) | (go_simp; rfl)); intro gb923 hg w5 hbox hb; have n0_ := am_ (blk_below (bu BK921.out) hb); have n1_ := am_ (blk_below (bu BK922.out) hb); have n2_ := am_ (below_step z45_3 hb); have n3_ := am_ (hbox); have n4_ := am_ (by rw [hg]; exact (below_size z45_3) : w.heap.size ≤ gb923); have n5_ := am_ (by rw [hg]; exact (below_size z45_3) : w.heap.size ≤ gb923); have n6_ := am_ (by rw [hg]; exact Nat.ne_of_lt (blk_lt (bu BK921.out)) : gb921 ≠ gb923); have n7_ := am_ (by rw [hg]; exact Nat.ne_of_gt (blk_lt (bu BK921.out)) : gb923 ≠ gb921); have n8_ := am_ (by rw [hg]; exact Nat.ne_of_lt (blk_lt (bu BK922.out)) : gb922 ≠ gb923); have n9_ := am_ (by rw [hg]; exact Nat.ne_of_gt (blk_lt (bu BK922.out)) : gb923 ≠ gb922); clear BK921 BK922 HB; have BK921 := n0_; have BK922 := n1_; have HB := n2_; have BK923 := n3_; have GW923 := n4_; have GE923 := n5_; have NB921_923 := n6_; have NB923_921 := n7_; have NB922_923 := n8_; have NB923_922 := n9_; clear n0_ n1_ n2_ n3_ n4_ n5_ n6_ n7_ n8_ n9_; clear hb hbox hg; have hnb6 := NB921_922.out; have hnc6 := NB922_921.out; have hnb7 := NB921_923.out; have hnc7 := NB923_921.out; have hcz8_0 : w5.cell? ⟨gb921, 0, none⟩ = some (.slice A0_0 l0_0.length c0_0) := (blk_cell BK921.out 0).trans rfl; have hfz8_0 := blk_frozen BK921.out 0) | ((with_reducible refine gate_callee (f := 95) rfl ?_); refine goesL_ (some 6) rfl rfl Try.func95 (by kernel_rfl) rfl #[.slice A0_0 l0_0.length c0_0] rfl (by (try simp only [List.map_toArray, List.map_cons, List.map_nil]); first | done | rfl | (simp only [List.length_drop, List.length_take]; rfl)) ?_; (with_reducible refine (laws_toDoSS.calls k _ _ l0_0 t924 _ ?side1 ?side2 A2.out).mono ?_); (case side1 => repeat (first | exact (Kd.C_below HR0_0.out HB.out) | (with_reducible refine Kd.C_alloc ?_ _) | (with_reducible refine Kd.C_drewN ?_ _) | (with_reducible refine Kd.C_drew ?_))); (case side2 => exact HC0_0.out); rintro e w9 ⟨v925, rfl, ho0, hb⟩; refine ⟨_, rfl, ?_⟩; have n0_ := am_ (Kd.S_lower ho0 (below_size z45_4)); have n1_ := am_ (blk_below (bu BK921.out) hb); have n2_ := am_ (blk_below (bu BK922.out) hb); have n3_ := am_ (blk_below (bu BK923.out) hb); have n4_ := am_ (below_step z45_4 hb); clear BK921 BK922 BK923 HB; have HO926 := n0_; have BK921 := n1_; have BK922 := n2_; have BK923 := n3_; have HB := n4_; clear n0_ n1_ n2_ n3_ n4_; (try clear hb); (try clear hb2); (try clear hk); (try clear hi); (try clear ho0); obtain ⟨Ao10, co10, eo10⟩ := Kd.S_slice HO926.out; subst eo10; have hnb11 := NB923_922.out; have hnc11 := NB922_923.out; have hcz12_0 : w9.cell? ⟨gb923, 0, none⟩ = some (.slice none 0 0) := (blk_cell BK923.out 0).trans rfl; have hfz12_0 := blk_frozen BK923.out 0; have hcz13_0 : w9.cell? ⟨gb922, 0, none⟩ = some (.slice none 0 0) := (blk_cell BK922.out 0).trans rfl; have hfz13_0 := blk_frozen BK922.out 0))
 refine bodyPost_ret (results_cell_row rfl _ _ gb922 35 #[.slice Ao10 t924.length co10] (0, 0) _ rfl (by (with_reducible repeat (first | refine blk_drewN ?_ _ | refine blk_drew ?_ | refine blk_alloc ?_ _)); refine blk_put (cs := #[.slice none 0 0]) ?_ 0 _ rfl; (with_reducible repeat (first | refine blk_drewN ?_ _ | refine blk_drew ?_ | refine blk_alloc ?_ _)); refine blk_far ?_ NB922_923.out _; (with_reducible repeat (first | refine blk_drewN ?_ _ | refine blk_drew ?_ | refine blk_alloc ?_ _)); exact BK922.out) Try.underlying35 rfl (by kernel_rfl)) rfl ?_
 exact ⟨_, by first | rfl | (simp [errW_none, errW_some] <;> rfl) | (simp [*, errW_none, errW_some] <;> rfl), su (Kd.S_mono (Kd.S_far (p := ⟨gb922, 0, none⟩) (Kd.S_far (p := ⟨gb923, 0, none⟩) (Kd.S_types (Kd.S_types HO926.out BK923.out (by decide)) BK922.out (by decide)) (fun _ hk => hk.1.2) (.slice Ao10 t924.length co10)) (fun _ hk => hk.2) (.slice Ao10 t924.length co10)) (fun _ hk => trivial)), z45_4⟩

end Go.Proofs.Ytefkbmhkhpekjaa.PB

namespace Go.Proofs.Ytefkbmhkhpekjaa.PB
open Go.RowKit Go.Proofs.YtefkbmhkhpekjaaW.PrintWords Go.Proofs.YtefkbmhkhpekjaaW.PrintLast Go.Proofs.YtefkbmhkhpekjaaW.PrintMore
attribute [local go_sem] max2_int min2_int max_two min_two max_three min_three max_four min_four   -- for this text's walks alone
open Go.Proofs.YtefkbmhkhpekjaaMine
set_option linter.unusedVariables false
set_option linter.unusedSimpArgs false

/-! ### laws_FnExactTurnPlain: function 10 -/
def laws_FnExactTurnPlain.T10 : Bool × List (List Nat × List Nat) := (true, [([], []), ([], []), ([1], [1]), ([0, 2, 2], [0, 2]), ([3], [3])])
def laws_FnExactTurnPlain.B10 : List Nat := [0, 0, 2, 7, 15]
theorem laws_FnExactTurnPlain.tab10 : rtab .any (opsOf Try.f10 10) = laws_FnExactTurnPlain.T10 := by kernel_rfl
theorem laws_FnExactTurnPlain.bits10 : waitsOk laws_FnExactTurnPlain.T10.2 laws_FnExactTurnPlain.B10 = true := by kernel_rfl
def laws_FnExactTurnPlain.Facts (k : Nat) (l : List (List S130)) (p want p1 w2 : List (List S85)) (left k1 m : Int) : Prop := laws_szProg.f k l 1048576 = some left ∧ (left < 0 ∨ laws_toProg.f k l = some p ∧ spec_TurnPlain.f k p = some want ∧ impl_TurnPlain.f k p = some want ∧ laws_eqProg.f k want want = some true ∧ laws_eqProg.f k p p = some true ∧ laws_markDoSS.f k p 1 = some (k1, p1) ∧ 0 ≤ k1 ∧ laws_markDoSS.f k want 1 = some (m, w2) ∧ 0 ≤ m ∧ laws_heldProg.f k w2 1 = some m)
set_option maxRecDepth 100000 in
set_option maxHeartbeats 8000000 in
theorem laws_FnExactTurnPlain.calls (k : Nat) (A0 : Option Addr) (c0 : Nat) (l : List (List S130)) (w : World) (p want p1 w2 : List (List S85)) (left k1 m : Int) (hr0 : Kd.C (Kd.slice 130 k130) w A0 l.length l) (hc0 : l.length ≤ c0) (h : laws_FnExactTurnPlain.Facts k l p want p1 w2 left k1 m) :
  Calls Try.prog 10 #[.agg #[.slice A0 l.length c0]] w fun e w' => e = .returned (.bool true) ∧ Below w.heap.size w w' := by
 have CL := am_ hr0
 have LL := am_ hc0
 clear hr0 hc0
 unfold laws_FnExactTurnPlain.Facts at h
 obtain ⟨h1, h2⟩ := h
 have F1 := am_ h1
 have FF := am_ h2
 clear h1 h2
 have BLa := am_ (heap_alloc_new w (Obj.cells #[Value.slice A0 l.length c0] 52))
 have HBa := am_ (below_alloc (Below.refl w.heap.size w) (Obj.cells #[Value.slice A0 l.length c0] 52))
 go_enter Try.func10, Try.ntmps10
 go_wp2_with (go_at_call 44; refine park ?_)
 refine ⟨?_⟩
 refine (laws_szProg.calls k _ _ l 1048576 left _ (Kd.C_below CL.out HBa.out) LL.out F1.out).mono ?_
 rintro e W1 ⟨rfl, hb⟩
 have BL_0 := am_ (blk_below BLa.out hb)
 have HB_0 := am_ (below_then HBa.out HBa.out.size hb)
 clear hb HBa BLa
 by_cases hlt : left < 0
 ·have hlb := decide_eq_true hlt
  clear FF
  go_wp2_with fail
  refine bodyPost_ret (results_tmp rfl _ _ _) rfl ?_
  exact ⟨rfl, HB_0.out⟩
 have hlb := decide_eq_false hlt
 have G := am_ (FF.out.resolve_left hlt)
 clear FF
 have LT1 := am_ (show w.heap.size < W1.heap.size from blk_lt BL_0.out)
 have QW1 := am_ (show w.heap.size ≤ W1.heap.size from HB_0.out.size)
 have hcl : W1.cell? ⟨w.heap.size, 0, none⟩ = some (.slice A0 l.length c0) := (blk_cell BL_0.out 0).trans rfl
 go_wp2_with (go_at_call 45; refine park ?_)
 clear hcl
 refine ⟨?_⟩
 refine (laws_toProg.calls k _ _ l p _ (Kd.C_below CL.out HB_0.out) LL.out G.out.1).mono ?_
 rintro e V1 ⟨vt, rfl, hS, hb⟩
 obtain ⟨At, ct, rfl⟩ := Kd.S_slice hS
 have BL_1 := am_ (blk_below BL_0.out hb)
 have HB_1 := am_ (below_then HB_0.out HB_0.out.size hb)
 clear BL_0 HB_0
 have Rt_n := am_ (Kd.S_lower (Kd.S_mono (ok' := fun j => W1.heap.size ≤ j ∧ j < V1.heap.size) (Kd.S_bound hS) (fun j hj => ⟨hj.2.1, hj.2.2.1⟩)) (show w.heap.size ≤ W1.heap.size from QW1.out))
 have QV1 := am_ (show w.heap.size ≤ V1.heap.size from HB_1.out.size)
 have ZV1 := am_ (show W1.heap.size ≤ V1.heap.size from hb.size)
 clear hS hb
 go_wp2_with (go_at_call 42; refine park ?_)
 refine ⟨?_⟩
 refine (spec_TurnPlain.calls k _ _ p want _ (Kd.S_reads' Rt_n.out).2.2 (Kd.S_reads' Rt_n.out).2.1 G.out.2.1).mono ?_
 rintro e V2 ⟨vw, rfl, hS, hb⟩
 obtain ⟨Aw, cw, rfl⟩ := Kd.S_slice hS
 have Rt_2 := am_ (Kd.S_below Rt_n.out hb)
 have BL_2 := am_ (blk_below BL_1.out hb)
 have HB_2 := am_ (below_then HB_1.out HB_1.out.size hb)
 clear Rt_n BL_1 HB_1
 have Rw_n := am_ (Kd.S_lower (Kd.S_mono (ok' := fun j => V1.heap.size ≤ j ∧ j < V2.heap.size) (Kd.S_bound hS) (fun j hj => ⟨hj.2.1, hj.2.2.1⟩)) (show w.heap.size ≤ V1.heap.size from QV1.out))
 have QV2 := am_ (show w.heap.size ≤ V2.heap.size from HB_2.out.size)
 have ZV2 := am_ (show V1.heap.size ≤ V2.heap.size from hb.size)
 clear hS hb
 have Bw_n := am_ (heap_alloc_new V2 (Obj.cells #[.slice Aw want.length cw] 35))
 have hb := below_alloc (Below.refl V2.heap.size V2) (Obj.cells #[.slice Aw want.length cw] 35)
 have eqs : (V2.alloc (Obj.cells #[.slice Aw want.length cw] 35)).heap.size = V2.heap.size + 1 := World.size_alloc _ _
 have Rt_3 := am_ (Kd.S_below Rt_2.out hb)
 have Rw_3 := am_ (Kd.S_below Rw_n.out hb)
 have BL_3 := am_ (blk_below BL_2.out hb)
 have HB_3 := am_ (below_then HB_2.out HB_2.out.size hb)
 clear Rt_2 Rw_n BL_2 HB_2 hb
 have hl0 : (V2.alloc (Obj.cells #[.slice Aw want.length cw] 35)).cell? ⟨w.heap.size, 0, none⟩ = some (.slice A0 l.length c0) := (blk_cell BL_3.out 0).trans rfl
 go_wp2_with (go_at_call 45; refine park ?_)
 clear hl0
 refine ⟨?_⟩
 generalize V2.heap.size = gw at *
 generalize (V2.alloc (Obj.cells #[.slice Aw want.length cw] 35)) = V3 at *
 have QV3 := am_ (show w.heap.size ≤ V3.heap.size from HB_3.out.size)
 have ZV3 := am_ (show V3.heap.size = gw + 1 from eqs)
 clear eqs
 refine (laws_toProg.calls k _ _ l p _ (Kd.C_below CL.out HB_3.out) LL.out G.out.1).mono ?_
 rintro e V4 ⟨vx, rfl, hS, hb⟩
 obtain ⟨Ax, cx, rfl⟩ := Kd.S_slice hS
 have Rt_4 := am_ (Kd.S_below Rt_3.out hb)
 have Rw_4 := am_ (Kd.S_below Rw_3.out hb)
 have BL_4 := am_ (blk_below BL_3.out hb)
 have Bw_4 := am_ (blk_below Bw_n.out hb)
 have HB_4 := am_ (below_then HB_3.out HB_3.out.size hb)
 clear Rt_3 Rw_3 BL_3 Bw_n HB_3
 have Rx_n := am_ (Kd.S_lower (Kd.S_mono (ok' := fun j => V3.heap.size ≤ j ∧ j < V4.heap.size) (Kd.S_bound hS) (fun j hj => ⟨hj.2.1, hj.2.2.1⟩)) (show w.heap.size ≤ V3.heap.size from QV3.out))
 have QV4 := am_ (show w.heap.size ≤ V4.heap.size from HB_4.out.size)
 have ZV4 := am_ (show V3.heap.size ≤ V4.heap.size from hb.size)
 clear hS hb
 have Bx_n := am_ (heap_alloc_new V4 (Obj.cells #[.slice Ax p.length cx] 35))
 have hb := below_alloc (Below.refl V4.heap.size V4) (Obj.cells #[.slice Ax p.length cx] 35)
 have eqs : (V4.alloc (Obj.cells #[.slice Ax p.length cx] 35)).heap.size = V4.heap.size + 1 := World.size_alloc _ _
 have Rt_5 := am_ (Kd.S_below Rt_4.out hb)
 have Rw_5 := am_ (Kd.S_below Rw_4.out hb)
 have Rx_5 := am_ (Kd.S_below Rx_n.out hb)
 have BL_5 := am_ (blk_below BL_4.out hb)
 have Bw_5 := am_ (blk_below Bw_4.out hb)
 have HB_5 := am_ (below_then HB_4.out HB_4.out.size hb)
 clear Rt_4 Rw_4 Rx_n BL_4 Bw_4 HB_4 hb
 have hl0 : (V4.alloc (Obj.cells #[.slice Ax p.length cx] 35)).cell? ⟨V4.heap.size, 0, none⟩ = some (.slice Ax p.length cx) := (blk_cell Bx_n.out 0).trans rfl
 go_wp2_with (go_at_call 35; refine park ?_)
 clear hl0
 refine ⟨?_⟩
 generalize V4.heap.size = gx at *
 generalize (V4.alloc (Obj.cells #[.slice Ax p.length cx] 35)) = V5 at *
 have QV5 := am_ (show w.heap.size ≤ V5.heap.size from HB_5.out.size)
 have ZV5 := am_ (show V5.heap.size = gx + 1 from eqs)
 clear eqs
 refine (impl_TurnPlain.calls k _ _ p want _ (Kd.S_reads' Rx_5.out).2.2 (Kd.S_reads' Rx_5.out).2.1 G.out.2.2.1).mono ?_
 rintro e V6 ⟨vg, rfl, hS, hb⟩
 obtain ⟨Ag, cg, rfl⟩ := Kd.S_slice hS
 have Rt_6 := am_ (Kd.S_below Rt_5.out hb)
 have Rw_6 := am_ (Kd.S_below Rw_5.out hb)
 have Rx_6 := am_ (Kd.S_below Rx_5.out hb)
 have BL_6 := am_ (blk_below BL_5.out hb)
 have Bw_6 := am_ (blk_below Bw_5.out hb)
 have Bx_6 := am_ (blk_below Bx_n.out hb)
 have HB_6 := am_ (below_then HB_5.out HB_5.out.size hb)
 clear Rt_5 Rw_5 Rx_5 BL_5 Bw_5 Bx_n HB_5
 have Rg_n := am_ (Kd.S_lower (Kd.S_mono (ok' := fun j => V5.heap.size ≤ j ∧ j < V6.heap.size) (Kd.S_bound hS) (fun j hj => ⟨hj.2.1, hj.2.2.1⟩)) (show w.heap.size ≤ V5.heap.size from QV5.out))
 have QV6 := am_ (show w.heap.size ≤ V6.heap.size from HB_6.out.size)
 have ZV6 := am_ (show V5.heap.size ≤ V6.heap.size from hb.size)
 clear hS hb
 have Bg_n := am_ (heap_alloc_new V6 (Obj.cells #[.slice Ag want.length cg] 35))
 have hb := below_alloc (Below.refl V6.heap.size V6) (Obj.cells #[.slice Ag want.length cg] 35)
 have eqs : (V6.alloc (Obj.cells #[.slice Ag want.length cg] 35)).heap.size = V6.heap.size + 1 := World.size_alloc _ _
 have Rt_7 := am_ (Kd.S_below Rt_6.out hb)
 have Rw_7 := am_ (Kd.S_below Rw_6.out hb)
 have Rx_7 := am_ (Kd.S_below Rx_6.out hb)
 have Rg_7 := am_ (Kd.S_below Rg_n.out hb)
 have BL_7 := am_ (blk_below BL_6.out hb)
 have Bw_7 := am_ (blk_below Bw_6.out hb)
 have Bx_7 := am_ (blk_below Bx_6.out hb)
 have HB_7 := am_ (below_then HB_6.out HB_6.out.size hb)
 clear Rt_6 Rw_6 Rx_6 Rg_n BL_6 Bw_6 Bx_6 HB_6 hb
 have hl0 : (V6.alloc (Obj.cells #[.slice Ag want.length cg] 35)).cell? ⟨V6.heap.size, 0, none⟩ = some (.slice Ag want.length cg) := (blk_cell Bg_n.out 0).trans rfl
 have hl1 : (V6.alloc (Obj.cells #[.slice Ag want.length cg] 35)).cell? ⟨gw, 0, none⟩ = some (.slice Aw want.length cw) := (blk_cell Bw_7.out 0).trans rfl
 go_wp2_with (go_at_call 32; refine park ?_)
 clear hl0 hl1
 refine ⟨?_⟩
 generalize V6.heap.size = gg at *
 generalize (V6.alloc (Obj.cells #[.slice Ag want.length cg] 35)) = V7 at *
 have QV7 := am_ (show w.heap.size ≤ V7.heap.size from HB_7.out.size)
 have ZV7 := am_ (show V7.heap.size = gg + 1 from eqs)
 clear eqs
 refine (laws_eqProg.calls k _ _ want _ _ want true _ (Kd.S_reads' Rg_7.out).2.2 (Kd.S_reads' Rg_7.out).2.1 (Kd.S_reads' Rw_7.out).2.2 (Kd.S_reads' Rw_7.out).2.1 G.out.2.2.2.1).mono ?_
 rintro e V8 ⟨rfl, hb⟩
 have Rt_8 := am_ (Kd.S_below Rt_7.out hb)
 have Rw_8 := am_ (Kd.S_below Rw_7.out hb)
 have Rx_8 := am_ (Kd.S_below Rx_7.out hb)
 have Rg_8 := am_ (Kd.S_below Rg_7.out hb)
 have BL_8 := am_ (blk_below BL_7.out hb)
 have Bw_8 := am_ (blk_below Bw_7.out hb)
 have Bx_8 := am_ (blk_below Bx_7.out hb)
 have Bg_8 := am_ (blk_below Bg_n.out hb)
 have HB_8 := am_ (below_then HB_7.out HB_7.out.size hb)
 clear Rt_7 Rw_7 Rx_7 Rg_7 BL_7 Bw_7 Bx_7 Bg_n HB_7 hb
 go_wp2_with fail
 have hb := below_drew (Below.refl V8.heap.size V8)
 have Rt_9 := am_ (Kd.S_below Rt_8.out hb)
 have Rw_9 := am_ (Kd.S_below Rw_8.out hb)
 have Rx_9 := am_ (Kd.S_below Rx_8.out hb)
 have Rg_9 := am_ (Kd.S_below Rg_8.out hb)
 have BL_9 := am_ (blk_below BL_8.out hb)
 have Bw_9 := am_ (blk_below Bw_8.out hb)
 have Bx_9 := am_ (blk_below Bx_8.out hb)
 have Bg_9 := am_ (blk_below Bg_8.out hb)
 have HB_9 := am_ (below_then HB_8.out HB_8.out.size hb)
 clear Rt_8 Rw_8 Rx_8 Rg_8 BL_8 Bw_8 Bx_8 Bg_8 HB_8 hb
 refine start_ (n := 5) (S := fun w' => w'.cell? ⟨gx, 0, none⟩ = some (.slice Ax p.length cx) ∧ w'.cell? ⟨w.heap.size, 0, none⟩ = some (.slice A0 l.length c0)) (ds := []) #[false, false, false, false, false] (by kernel_rfl) rfl rfl ⟨(blk_cell Bx_9.out 0).trans rfl, (blk_cell BL_9.out 0).trans rfl⟩ (fun hHeld => ?_)
 refine with_tabW laws_FnExactTurnPlain.tab10 laws_FnExactTurnPlain.bits10 (fun HT_ HW_ => ?_)
 generalize V8.drew = V9 at *
 refine take_ (i := 0) (N := some 27) (v := ?_) (a' := ?_) #[true, false, false, false, false] rfl rfl (take_ofW HT_.out HW_.out (by kernel_rfl)) (fun _ _ _ h => h) (Or.inl ⟨by rfl, ?_⟩) hHeld ?_ ?_
 rotate_left
 ·intro w' s0
  have s1 := s0.1
  go_simp
  with_reducible rfl
 rotate_left
 ·simp only [Act.put, List.setIfInBounds_toArray, List.set_cons_zero, List.set_cons_succ, i64_w, i32_w]
  rfl
 refine take_ (i := 1) (N := some 28) (v := ?_) (a' := ?_) #[true, true, false, false, false] rfl rfl (take_ofW HT_.out HW_.out (by kernel_rfl)) (fun _ _ _ h => h) (Or.inl ⟨by rfl, ?_⟩) hHeld ?_ ?_
 rotate_left
 ·intro w' s0
  have s1 := s0.2
  go_simp
  with_reducible rfl
 rotate_left
 ·simp only [Act.put, List.setIfInBounds_toArray, List.set_cons_zero, List.set_cons_succ, i64_w, i32_w]
  rfl
 refine one_ (i := 2) (N := some 29) #[true, true, true, false, false] rfl rfl (one_of HT_.out (by kernel_rfl)) (by decide) (fun K hK => ?_)
 refine goes_ Try.func45 (by kernel_rfl) rfl #[.agg #[.slice A0 l.length c0]] (by rfl) rfl rfl (by (try simp only [List.map_toArray, List.map_cons, List.map_nil]); first | done | rfl) ?_
 with_reducible refine (laws_toProg.calls k _ _ l p _ (Kd.C_below CL.out HB_9.out) LL.out G.out.1).mono ?_
 rintro e V10 ⟨vu, rfl, hS, hb⟩
 refine ⟨_, rfl, ?_⟩
 obtain ⟨Au, cu, rfl⟩ := Kd.S_slice hS
 have QV9 := am_ (show w.heap.size ≤ V9.heap.size from HB_9.out.size)
 have Rt_10 := am_ (Kd.S_below Rt_9.out hb)
 have Rw_10 := am_ (Kd.S_below Rw_9.out hb)
 have Rx_10 := am_ (Kd.S_below Rx_9.out hb)
 have Rg_10 := am_ (Kd.S_below Rg_9.out hb)
 have BL_10 := am_ (blk_below BL_9.out hb)
 have Bw_10 := am_ (blk_below Bw_9.out hb)
 have Bx_10 := am_ (blk_below Bx_9.out hb)
 have Bg_10 := am_ (blk_below Bg_9.out hb)
 have HB_10 := am_ (below_then HB_9.out HB_9.out.size hb)
 clear Rt_9 Rw_9 Rx_9 Rg_9 BL_9 Bw_9 Bx_9 Bg_9 HB_9
 have Ru_n := am_ (Kd.S_lower (Kd.S_mono (ok' := fun j => V9.heap.size ≤ j ∧ j < V10.heap.size) (Kd.S_bound hS) (fun j hj => ⟨hj.2.1, hj.2.2.1⟩)) (show w.heap.size ≤ V9.heap.size from QV9.out))
 have QV10 := am_ (show w.heap.size ≤ V10.heap.size from HB_10.out.size)
 have ZV10 := am_ (show V9.heap.size ≤ V10.heap.size from hb.size)
 clear hS hb
 refine hK.out _ _ ⟨(blk_cell Bx_10.out 0).trans rfl, (blk_cell BL_10.out 0).trans rfl⟩ (fun hHeld => ?_)
 clear hK K
 refine norm_ (a' := ?_) ?_ ?_
 rotate_left
 ·show Act.put _ (some 29) _ = _
  simp only [Act.put, List.setIfInBounds_toArray, List.set_cons_zero, List.set_cons_succ, i64_w, i32_w]
  rfl
 refine one_ (i := 3) (N := some 30) #[true, true, true, true, false] rfl rfl (one_of HT_.out (by kernel_rfl)) (by decide) (fun K hK => ?_)
 refine goes_ Try.func32 (by kernel_rfl) rfl #[.agg #[.slice Ax p.length cx], .agg #[.slice Au p.length cu]] (by rfl) rfl rfl (by (try simp only [List.map_toArray, List.map_cons, List.map_nil]); first | done | rfl) ?_
 with_reducible refine (laws_eqProg.calls k _ _ p _ _ p true _ (Kd.S_reads' Rx_10.out).2.2 (Kd.S_reads' Rx_10.out).2.1 (Kd.S_reads' Ru_n.out).2.2 (Kd.S_reads' Ru_n.out).2.1 G.out.2.2.2.2.1).mono ?_
 rintro e V11 ⟨rfl, hb⟩
 refine ⟨_, rfl, ?_⟩
 have Rt_11 := am_ (Kd.S_below Rt_10.out hb)
 have Rw_11 := am_ (Kd.S_below Rw_10.out hb)
 have Rx_11 := am_ (Kd.S_below Rx_10.out hb)
 have Rg_11 := am_ (Kd.S_below Rg_10.out hb)
 have Ru_11 := am_ (Kd.S_below Ru_n.out hb)
 have BL_11 := am_ (blk_below BL_10.out hb)
 have Bw_11 := am_ (blk_below Bw_10.out hb)
 have Bx_11 := am_ (blk_below Bx_10.out hb)
 have Bg_11 := am_ (blk_below Bg_10.out hb)
 have HB_11 := am_ (below_then HB_10.out HB_10.out.size hb)
 clear Rt_10 Rw_10 Rx_10 Rg_10 Ru_n BL_10 Bw_10 Bx_10 Bg_10 HB_10 hb
 refine hK.out _ _ ⟨(blk_cell Bx_11.out 0).trans rfl, (blk_cell BL_11.out 0).trans rfl⟩ (fun hHeld => ?_)
 clear hK K
 refine norm_ (a' := ?_) ?_ ?_
 rotate_left
 ·show Act.put _ (some 30) _ = _
  simp only [Act.put, List.setIfInBounds_toArray, List.set_cons_zero, List.set_cons_succ, i64_w, i32_w]
  rfl
 refine pure_ (i := 4) (N := some 31) (v := ?_) (a' := ?_) #[true, true, true, true, true] rfl rfl (any_of HT_.out (by kernel_rfl)) (fun _ _ _ h => h) (Or.inl ⟨by rfl, ?_⟩) ?_ ?_
 rotate_left
 ·intro w'
  go_simp
  with_reducible rfl
 rotate_left
 ·simp only [Act.put, List.setIfInBounds_toArray, List.set_cons_zero, List.set_cons_succ, i64_w, i32_w]
  rfl
 refine done_ (done_of HT_.out (by kernel_rfl)) ?_
 have NUM := am_ (show w.heap.size < V1.heap.size ∧ V1.heap.size ≤ gw ∧ gw + 1 = V3.heap.size ∧ V3.heap.size ≤ gx ∧ gx + 1 = V5.heap.size ∧ V5.heap.size ≤ gg from by
  have h1 := LT1.out; have h2 := ZV1.out; have h3 := ZV2.out; have h4 := ZV3.out; have h5 := ZV4.out; have h6 := ZV5.out; have h7 := ZV6.out
  omega)
 have hl0 : V11.cell? ⟨gx, 0, none⟩ = some (.slice Ax p.length cx) := (blk_cell Bx_11.out 0).trans rfl
 go_wp2_with (go_at_call 33; refine park ?_)
 clear hl0
 refine ⟨?_⟩
 refine (laws_markProg.calls k (fun j => V3.heap.size ≤ j ∧ j < gx) _ p 1 k1 p1 w _ HB_11.out Rx_11.out G.out.2.2.2.2.2.1).mono ?_
 rintro e V12 ⟨rfl, hS, hb, hk⟩
 have hn := NUM.out
 have Rw_12 := am_ (Kd.S_step Rw_11.out (fun j hj hlt => hk.2 j hlt (fun h2 => by omega)))
 have Rx_12 := am_ hS
 have Rg_12 := am_ (Kd.S_step Rg_11.out (fun j hj hlt => hk.2 j hlt (fun h2 => by omega)))
 have BL_12 := am_ ((hk.2 w.heap.size (blk_lt BL_11.out) (fun h2 => by omega)).trans BL_11.out)
 have Bw_12 := am_ ((hk.2 gw (blk_lt Bw_11.out) (fun h2 => by omega)).trans Bw_11.out)
 have Bx_12 := am_ ((hk.2 gx (blk_lt Bx_11.out) (fun h2 => by omega)).trans Bx_11.out)
 have Bg_12 := am_ ((hk.2 gg (blk_lt Bg_11.out) (fun h2 => by omega)).trans Bg_11.out)
 have HB_12 := am_ hb
 clear Rw_11 Rx_11 Rg_11 BL_11 Bw_11 Bx_11 Bg_11 HB_11 hS hb hk hn
 have hk1 : decide (k1 < 0) = false := decide_eq_false (by have := G.out.2.2.2.2.2.2.1; omega)
 have hm1 : decide (m < 0) = false := decide_eq_false (by have := G.out.2.2.2.2.2.2.2.2.1; omega)
 have hmm : (m != m) = false := by simp
 have hl0 : V12.cell? ⟨gg, 0, none⟩ = some (.slice Ag want.length cg) := (blk_cell Bg_12.out 0).trans rfl
 have hl1 : V12.cell? ⟨gw, 0, none⟩ = some (.slice Aw want.length cw) := (blk_cell Bw_12.out 0).trans rfl
 go_wp2_with (go_at_call 32; refine park ?_)
 clear hl0 hl1
 refine ⟨?_⟩
 refine (laws_eqProg.calls k _ _ want _ _ want true _ (Kd.S_reads' Rg_12.out).2.2 (Kd.S_reads' Rg_12.out).2.1 (Kd.S_reads' Rw_12.out).2.2 (Kd.S_reads' Rw_12.out).2.1 G.out.2.2.2.1).mono ?_
 rintro e V13 ⟨rfl, hb⟩
 have Rw_13 := am_ (Kd.S_below Rw_12.out hb)
 have Rx_13 := am_ (Kd.S_below Rx_12.out hb)
 have Rg_13 := am_ (Kd.S_below Rg_12.out hb)
 have BL_13 := am_ (blk_below BL_12.out hb)
 have Bw_13 := am_ (blk_below Bw_12.out hb)
 have Bx_13 := am_ (blk_below Bx_12.out hb)
 have Bg_13 := am_ (blk_below Bg_12.out hb)
 have HB_13 := am_ (below_then HB_12.out HB_12.out.size hb)
 clear Rw_12 Rx_12 Rg_12 BL_12 Bw_12 Bx_12 Bg_12 HB_12 hb
 have hl0 : V13.cell? ⟨gg, 0, none⟩ = some (.slice Ag want.length cg) := (blk_cell Bg_13.out 0).trans rfl
 go_wp2_with (go_at_call 33; refine park ?_)
 clear hl0
 refine ⟨?_⟩
 refine (laws_markProg.calls k (fun j => V5.heap.size ≤ j ∧ j < gg) _ want 1 m w2 w _ HB_13.out Rg_13.out G.out.2.2.2.2.2.2.2.1).mono ?_
 rintro e V14 ⟨rfl, hS, hb, hk⟩
 have hn := NUM.out
 have Rw_14 := am_ (Kd.S_step Rw_13.out (fun j hj hlt => hk.2 j hlt (fun h2 => by omega)))
 have Rg_14 := am_ hS
 have BL_14 := am_ ((hk.2 w.heap.size (blk_lt BL_13.out) (fun h2 => by omega)).trans BL_13.out)
 have Bw_14 := am_ ((hk.2 gw (blk_lt Bw_13.out) (fun h2 => by omega)).trans Bw_13.out)
 have Bx_14 := am_ ((hk.2 gx (blk_lt Bx_13.out) (fun h2 => by omega)).trans Bx_13.out)
 have Bg_14 := am_ ((hk.2 gg (blk_lt Bg_13.out) (fun h2 => by omega)).trans Bg_13.out)
 have HB_14 := am_ hb
 clear Rw_13 Rg_13 BL_13 Bw_13 Bx_13 Bg_13 HB_13 hS hb hk hn
 have EL := am_ (show want.length = w2.length from (Kd.S_reads' Rg_14.out).1)
 have hl0 : V14.cell? ⟨gg, 0, none⟩ = some (.slice Ag want.length cg) := (blk_cell Bg_14.out 0).trans rfl
 go_wp2_with (go_at_call 34; refine park ?_)
 clear hl0
 refine ⟨?_⟩
 have hw2 := (Kd.S_reads' Rg_14.out)
 rw [EL.out] at hw2 ⊢
 refine (laws_heldProg.calls k _ _ w2 1 m _ hw2.2.2 hw2.2.1 G.out.2.2.2.2.2.2.2.2.2).mono ?_
 rintro e V15 ⟨rfl, hb⟩
 have Rw_15 := am_ (Kd.S_below Rw_14.out hb)
 have Rg_15 := am_ (Kd.S_below Rg_14.out hb)
 have BL_15 := am_ (blk_below BL_14.out hb)
 have Bw_15 := am_ (blk_below Bw_14.out hb)
 have Bx_15 := am_ (blk_below Bx_14.out hb)
 have Bg_15 := am_ (blk_below Bg_14.out hb)
 have HB_15 := am_ (below_then HB_14.out HB_14.out.size hb)
 clear Rw_14 Rg_14 BL_14 Bw_14 Bx_14 Bg_14 HB_14 hb hw2
 have hl0 : V15.cell? ⟨w.heap.size, 0, none⟩ = some (.slice A0 l.length c0) := (blk_cell BL_15.out 0).trans rfl
 go_wp2_with (go_at_call 45; refine park ?_)
 clear hl0
 refine ⟨?_⟩
 refine (laws_toProg.calls k _ _ l p _ (Kd.C_below CL.out HB_15.out) LL.out G.out.1).mono ?_
 rintro e V16 ⟨vs, rfl, hS, hb⟩
 obtain ⟨As, cs, rfl⟩ := Kd.S_slice hS
 have QV15 := am_ (show w.heap.size ≤ V15.heap.size from HB_15.out.size)
 have Rw_16 := am_ (Kd.S_below Rw_15.out hb)
 have Rg_16 := am_ (Kd.S_below Rg_15.out hb)
 have BL_16 := am_ (blk_below BL_15.out hb)
 have Bw_16 := am_ (blk_below Bw_15.out hb)
 have Bx_16 := am_ (blk_below Bx_15.out hb)
 have Bg_16 := am_ (blk_below Bg_15.out hb)
 have HB_16 := am_ (below_then HB_15.out HB_15.out.size hb)
 clear Rw_15 Rg_15 BL_15 Bw_15 Bx_15 Bg_15 HB_15
 have Rs_n := am_ (Kd.S_lower (Kd.S_mono (ok' := fun j => V15.heap.size ≤ j ∧ j < V16.heap.size) (Kd.S_bound hS) (fun j hj => ⟨hj.2.1, hj.2.2.1⟩)) (show w.heap.size ≤ V15.heap.size from QV15.out))
 have QV16 := am_ (show w.heap.size ≤ V16.heap.size from HB_16.out.size)
 have ZV16 := am_ (show V15.heap.size ≤ V16.heap.size from hb.size)
 clear hS hb
 go_wp2_with (go_at_call 35; refine park ?_)
 refine ⟨?_⟩
 refine (impl_TurnPlain.calls k _ _ p want _ (Kd.S_reads' Rs_n.out).2.2 (Kd.S_reads' Rs_n.out).2.1 G.out.2.2.1).mono ?_
 rintro e V17 ⟨vy, rfl, hS, hb⟩
 obtain ⟨Ay, cy, rfl⟩ := Kd.S_slice hS
 have Rw_17 := am_ (Kd.S_below Rw_16.out hb)
 have Rg_17 := am_ (Kd.S_below Rg_16.out hb)
 have Rs_17 := am_ (Kd.S_below Rs_n.out hb)
 have BL_17 := am_ (blk_below BL_16.out hb)
 have Bw_17 := am_ (blk_below Bw_16.out hb)
 have Bx_17 := am_ (blk_below Bx_16.out hb)
 have Bg_17 := am_ (blk_below Bg_16.out hb)
 have HB_17 := am_ (below_then HB_16.out HB_16.out.size hb)
 clear Rw_16 Rg_16 Rs_n BL_16 Bw_16 Bx_16 Bg_16 HB_16
 have Ry_n := am_ (Kd.S_lower (Kd.S_mono (ok' := fun j => V16.heap.size ≤ j ∧ j < V17.heap.size) (Kd.S_bound hS) (fun j hj => ⟨hj.2.1, hj.2.2.1⟩)) (show w.heap.size ≤ V16.heap.size from QV16.out))
 have QV17 := am_ (show w.heap.size ≤ V17.heap.size from HB_17.out.size)
 have ZV17 := am_ (show V16.heap.size ≤ V17.heap.size from hb.size)
 clear hS hb
 have By_n := am_ (heap_alloc_new V17 (Obj.cells #[.slice Ay want.length cy] 35))
 have hb := below_alloc (Below.refl V17.heap.size V17) (Obj.cells #[.slice Ay want.length cy] 35)
 have eqs : (V17.alloc (Obj.cells #[.slice Ay want.length cy] 35)).heap.size = V17.heap.size + 1 := World.size_alloc _ _
 have Rw_18 := am_ (Kd.S_below Rw_17.out hb)
 have Rg_18 := am_ (Kd.S_below Rg_17.out hb)
 have Rs_18 := am_ (Kd.S_below Rs_17.out hb)
 have Ry_18 := am_ (Kd.S_below Ry_n.out hb)
 have BL_18 := am_ (blk_below BL_17.out hb)
 have Bw_18 := am_ (blk_below Bw_17.out hb)
 have Bx_18 := am_ (blk_below Bx_17.out hb)
 have Bg_18 := am_ (blk_below Bg_17.out hb)
 have HB_18 := am_ (below_then HB_17.out HB_17.out.size hb)
 clear Rw_17 Rg_17 Rs_17 Ry_n BL_17 Bw_17 Bx_17 Bg_17 HB_17 hb
 have hl0 : (V17.alloc (Obj.cells #[.slice Ay want.length cy] 35)).cell? ⟨V17.heap.size, 0, none⟩ = some (.slice Ay want.length cy) := (blk_cell By_n.out 0).trans rfl
 have hl1 : (V17.alloc (Obj.cells #[.slice Ay want.length cy] 35)).cell? ⟨gw, 0, none⟩ = some (.slice Aw want.length cw) := (blk_cell Bw_18.out 0).trans rfl
 go_wp2_with (go_at_call 32; refine park ?_)
 clear hl0 hl1
 refine ⟨?_⟩
 generalize V17.heap.size = gy at *
 generalize (V17.alloc (Obj.cells #[.slice Ay want.length cy] 35)) = V18 at *
 have QV18 := am_ (show w.heap.size ≤ V18.heap.size from HB_18.out.size)
 have ZV18 := am_ (show V18.heap.size = gy + 1 from eqs)
 clear eqs
 refine (laws_eqProg.calls k _ _ want _ _ want true _ (Kd.S_reads' Ry_18.out).2.2 (Kd.S_reads' Ry_18.out).2.1 (Kd.S_reads' Rw_18.out).2.2 (Kd.S_reads' Rw_18.out).2.1 G.out.2.2.2.1).mono ?_
 rintro e V19 ⟨rfl, hb⟩
 have Rw_19 := am_ (Kd.S_below Rw_18.out hb)
 have Rg_19 := am_ (Kd.S_below Rg_18.out hb)
 have Rs_19 := am_ (Kd.S_below Rs_18.out hb)
 have Ry_19 := am_ (Kd.S_below Ry_18.out hb)
 have BL_19 := am_ (blk_below BL_18.out hb)
 have Bw_19 := am_ (blk_below Bw_18.out hb)
 have Bx_19 := am_ (blk_below Bx_18.out hb)
 have Bg_19 := am_ (blk_below Bg_18.out hb)
 have By_19 := am_ (blk_below By_n.out hb)
 have HB_19 := am_ (below_then HB_18.out HB_18.out.size hb)
 clear Rw_18 Rg_18 Rs_18 Ry_18 BL_18 Bw_18 Bx_18 Bg_18 By_n HB_18 hb
 have hl0 : V19.cell? ⟨gg, 0, none⟩ = some (.slice Ag want.length cg) := (blk_cell Bg_19.out 0).trans rfl
 go_wp2_with (go_at_call 34; refine park ?_)
 clear hl0
 refine ⟨?_⟩
 have hw2 := (Kd.S_reads' Rg_19.out)
 rw [EL.out] at hw2 ⊢
 refine (laws_heldProg.calls k _ _ w2 1 m _ hw2.2.2 hw2.2.1 G.out.2.2.2.2.2.2.2.2.2).mono ?_
 rintro e V20 ⟨rfl, hb⟩
 have Rw_20 := am_ (Kd.S_below Rw_19.out hb)
 have Rg_20 := am_ (Kd.S_below Rg_19.out hb)
 have Rs_20 := am_ (Kd.S_below Rs_19.out hb)
 have Ry_20 := am_ (Kd.S_below Ry_19.out hb)
 have BL_20 := am_ (blk_below BL_19.out hb)
 have Bw_20 := am_ (blk_below Bw_19.out hb)
 have Bx_20 := am_ (blk_below Bx_19.out hb)
 have Bg_20 := am_ (blk_below Bg_19.out hb)
 have By_20 := am_ (blk_below By_19.out hb)
 have HB_20 := am_ (below_then HB_19.out HB_19.out.size hb)
 clear Rw_19 Rg_19 Rs_19 Ry_19 BL_19 Bw_19 Bx_19 Bg_19 By_19 HB_19 hb hw2
 go_wp2_with fail
 refine bodyPost_ret (results_tmp rfl _ _ _) rfl ?_
 exact ⟨rfl, HB_20.out⟩
def laws_FnExactTurnPlain.Pure : Prop := ∀ (l : List (List S130)), l.length ≤ 9223372036854775807 → (∀ t ∈ l, t.length ≤ 9223372036854775807) → ∃ k p want p1 w2 left k1 m, laws_FnExactTurnPlain.Facts k l p want p1 w2 left k1 m
theorem laws_FnExactTurnPlain.walk (P : laws_FnExactTurnPlain.Pure) (A0 : Option Addr) (c0 : Nat) (l : List (List S130)) (w : World) (hr0 : Kd.C (Kd.slice 130 k130) w A0 l.length l) (hc0 : l.length ≤ c0) :
  Calls Try.prog 10 #[.agg #[.slice A0 l.length c0]] w fun e w' => e = .returned (.bool true) ∧ Below w.heap.size w w' := by
 obtain ⟨k, p, want, p1, w2, left, k1, m, h⟩ := P l hr0.2.1 (fun t ht => by
  obtain ⟨j, hj, rfl⟩ := List.getElem_of_mem ht
  obtain ⟨ad, _, hc⟩ := hr0.2.2 (by omega)
  obtain ⟨c, _, hK, _⟩ := hc j _ (List.getElem?_eq_getElem hj)
  obtain ⟨A, c', _, _, hC⟩ := (show ((Kd.slice 130 k130)).K w l[j] c from hK)
  exact hC.2.1)
 exact laws_FnExactTurnPlain.calls k A0 c0 l w p want p1 w2 left k1 m hr0 hc0 h


end Go.Proofs.Ytefkbmhkhpekjaa.PB

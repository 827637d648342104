-- Joined by wip/mclaim.py out of YtefkbmhkhpekjaaPBx43, YtefkbmhkhpekjaaPBx101, YtefkbmhkhpekjaaPBx100, YtefkbmhkhpekjaaPBx51, YtefkbmhkhpekjaaPBx114, YtefkbmhkhpekjaaPBx66, YtefkbmhkhpekjaaPBx115, YtefkbmhkhpekjaaPBx78, YtefkbmhkhpekjaaPBx131, YtefkbmhkhpekjaaPBx116, YtefkbmhkhpekjaaPBx77
import Derived.Test.YtefkbmhkhpekjaaPBx0
import Derived.Test.YtefkbmhkhpekjaaPBx87
import Derived.Test.YtefkbmhkhpekjaaJFnExactTurnValsx2
import Derived.Test.YtefkbmhkhpekjaaJFnExactTurnValsyPBx93
namespace Go.Proofs.Ytefkbmhkhpekjaa.PB
open Go.RowKit Go.Proofs.YtefkbmhkhpekjaaW.PrintWords Go.Proofs.YtefkbmhkhpekjaaW.PrintLast Go.Proofs.YtefkbmhkhpekjaaW.PrintMore
attribute [local go_sem] max2_int min2_int max_two min_two max_three min_three max_four min_four   -- for this text's walks alone
open Go.Proofs.YtefkbmhkhpekjaaMine
set_option linter.unusedVariables false
set_option linter.unusedSimpArgs false

theorem z43_1 {p : Prop} (h : p := by first | rfl | (simp; done) | (simp [*]; done)) : p := h
theorem z43_2 {p : Prop} (h : p := by first | (with_reducible assumption) | assumption) : p := h
theorem z43_3 {p : Prop} (h : p := by first | rfl | (simp [errW_none, errW_some] <;> rfl) | (simp [*, errW_none, errW_some] <;> rfl)) : p := h
theorem z43_4 {p : Prop} (h : p := by repeat (first | (with_reducible first | exact HB.out | apply below_alloc | apply pw_below_drewN | apply below_drew1) | exact HB.out)) : p := h
theorem z43_5 {p : Prop} (h : p := by repeat (first | (with_reducible first | exact HB.out | apply below_alloc | apply pw_below_drewN | apply below_drew1 | refine below_set ?_ GE619.out) | exact HB.out)) : p := h
/-! ### spec_ProgOk: function 43 -/
mutual
def spec_ProgOk.l0 : Nat → Int → Int → Int → List (List (S85)) → Option (Bool)
  | 0, _, _, _, _ => none
  | k + 1, x3, x4, x5, x620000 => if x5 < (x620000.length : Int) then (if 0 ≤ x5 then ((spec_l1Thread.f k (rd_L7 x620000 x5)).bind fun t621 => (if t621 = true then (spec_ProgOk.l1 k (wrap64 (x3 + ((rd_L7 x620000 x5).length : Int))) x4 x5 0 x620000) else (some false))) else (none)) else (if x3 ≤ 14 then (some (decide (x4 ≤ 6))) else (some false))
def spec_ProgOk.l1 : Nat → Int → Int → Int → Int → List (List (S85)) → Option (Bool)
  | 0, _, _, _, _, _ => none
  | k + 1, x3, x4, x5, x6, x620000 => if 0 ≤ x5 then (if x5 < (x620000.length : Int) then (if x6 < ((rd_L7 x620000 x5).length : Int) then (if 0 ≤ x6 then ((spec_l1Reads.f ((rd_T85 (rd_L7 x620000 x5) x6).f0) ((rd_T85 (rd_L7 x620000 x5) x6).f1) ((rd_T85 (rd_L7 x620000 x5) x6).f2)).bind fun t626 => (if t626 = true then (spec_ProgOk.l1 k x3 (wrap64 (x4 + 1)) x5 (wrap64 (x6 + 1)) x620000) else ((spec_l1Writes.f ((rd_T85 (rd_L7 x620000 x5) x6).f0) ((rd_T85 (rd_L7 x620000 x5) x6).f1) ((rd_T85 (rd_L7 x620000 x5) x6).f2)).bind fun t629 => (if t629 = true then (spec_ProgOk.l1 k x3 (wrap64 (x4 + 1)) x5 (wrap64 (x6 + 1)) x620000) else (spec_ProgOk.l1 k x3 x4 x5 (wrap64 (x6 + 1)) x620000))))) else (none)) else (spec_ProgOk.l0 k x3 x4 (wrap64 (x5 + 1)) x620000)) else (none)) else (none)
end
def spec_ProgOk.f (k : Nat) (l0_0 : List (List (S85))) : Option (Bool) := if (l0_0.length : Int) > 3 then (some false) else (spec_ProgOk.l0 k 0 0 0 l0_0)
theorem spec_ProgOk.mono_l : ∀ k, (∀ y0 y1 y2 y3, LeO (spec_ProgOk.l0 k y0 y1 y2 y3) (spec_ProgOk.l0 (k + 1) y0 y1 y2 y3)) ∧ (∀ y0 y1 y2 y3 y4, LeO (spec_ProgOk.l1 k y0 y1 y2 y3 y4) (spec_ProgOk.l1 (k + 1) y0 y1 y2 y3 y4))
  | 0 => ⟨fun _ _ _ _ r h => by simp [spec_ProgOk.l0] at h, fun _ _ _ _ _ r h => by simp [spec_ProgOk.l1] at h⟩
  | k + 1 => by
    obtain ⟨ih0, ih1⟩ := spec_ProgOk.mono_l k
    refine ⟨?_, ?_⟩
    · intro y0 y1 y2 y3
      unfold spec_ProgOk.l0
      repeat' first
      | (with_reducible exact ih0 _ _ _ _)
      | (with_reducible exact ih1 _ _ _ _ _)
      | (with_reducible exact spec_l1Thread.mono _ _)
      | (with_reducible exact LeO.refl _)
      | (with_reducible exact LeO.none _)
      | (with_reducible refine LeO.ite ?_ ?_)
      | (with_reducible refine LeO.bind ?_ (fun _ => ?_))
      | exact ih0 _ _ _ _
      | exact ih1 _ _ _ _ _
      | exact spec_l1Thread.mono _ _
      | exact LeO.none _
      | refine LeO.ite ?_ ?_
      | refine LeO.bind ?_ (fun _ => ?_)
    · intro y0 y1 y2 y3 y4
      unfold spec_ProgOk.l1
      repeat' first
      | (with_reducible exact ih0 _ _ _ _)
      | (with_reducible exact ih1 _ _ _ _ _)
      | (with_reducible exact spec_l1Thread.mono _ _)
      | (with_reducible exact LeO.refl _)
      | (with_reducible exact LeO.none _)
      | (with_reducible refine LeO.ite ?_ ?_)
      | (with_reducible refine LeO.bind ?_ (fun _ => ?_))
      | exact ih0 _ _ _ _
      | exact ih1 _ _ _ _ _
      | exact spec_l1Thread.mono _ _
      | exact LeO.none _
      | refine LeO.ite ?_ ?_
      | refine LeO.bind ?_ (fun _ => ?_)
theorem spec_ProgOk.mono : ∀ a0 k, LeO (spec_ProgOk.f k a0) (spec_ProgOk.f (k + 1) a0) := by
  intro a0 k
  obtain ⟨ih0, ih1⟩ := spec_ProgOk.mono_l k
  unfold spec_ProgOk.f
  repeat' first
      | (with_reducible exact ih0 _ _ _ _)
      | (with_reducible exact ih1 _ _ _ _ _)
      | (with_reducible exact spec_l1Thread.mono _ _)
      | (with_reducible exact LeO.refl _)
      | (with_reducible exact LeO.none _)
      | (with_reducible refine LeO.ite ?_ ?_)
      | (with_reducible refine LeO.bind ?_ (fun _ => ?_))
      | exact ih0 _ _ _ _
      | exact ih1 _ _ _ _ _
      | exact spec_l1Thread.mono _ _
      | exact LeO.none _
      | refine LeO.ite ?_ ?_
      | refine LeO.bind ?_ (fun _ => ?_)
set_option maxHeartbeats 8000000 in
set_option maxRecDepth 100000 in
theorem spec_ProgOk.calls (k : Nat) (A0_0 : Option Addr) (c0_0 : Nat) (l0_0 : List (List (S85))) (r : Bool) (w : World) (hr0_0 : Kd.C (Kd.slice 85 k85) w A0_0 l0_0.length l0_0) (hc0_0 : l0_0.length ≤ c0_0) (h : spec_ProgOk.f k l0_0 = some r) :
  Calls Try.prog 43 #[.agg #[.slice A0_0 l0_0.length c0_0]] w fun e w' => e = .returned (.bool r) ∧ Below w.heap.size w w' := by
 have hu35 := Try.underlying35
 have hu85 := Try.underlying85
 have HR0_0 := am_ hr0_0
 have HC0_0 := am_ hc0_0
 clear hr0_0 hc0_0
 have HB := am_ (Below.refl w.heap.size w)
 have H : (if (l0_0.length : Int) > 3 then (some false) else (spec_ProgOk.l0 k 0 0 0 l0_0)) = some r := h
 clear h
 by_cases c2 : (l0_0.length : Int) > 3
 ·rw [if_pos c2] at H
  have c2b0 : decide (3 < (l0_0.length : Int)) = true := decide_eq_true c2
  have c2b1 : decide (3 < l0_0.length) = true := decide_eq_true (by omega)
  clear c2
  obtain rfl := Option.some.inj H
  go_enter Try.func43, Try.ntmps43
  go_wp2_with (first | ((with_reducible refine gate_dst (N := 1) rfl ?_); refine box_event ?hg (N := 1) ?hd (cs := #[.slice A0_0 l0_0.length c0_0]) (t := 35) ?hr ?_; (case hd => rfl); (case hg => rfl); (case hr => first | (go_simp; done) | (go_simp; rfl)); intro gb619 hg w3 hbox hb; have n0_ := am_ (below_step z43_4 hb); have n1_ := am_ (hbox); have n2_ := am_ (by rw [hg]; exact (below_size z43_4) : w.heap.size ≤ gb619); have n3_ := am_ (by rw [hg]; exact (below_size z43_4) : w.heap.size ≤ gb619); clear HB; have HB := n0_; have BK619 := n1_; have GW619 := n2_; have GE619 := n3_; clear n0_ n1_ n2_ n3_; clear hb hbox hg; have hcz4_0 : w3.cell? ⟨gb619, 0, none⟩ = some (.slice A0_0 l0_0.length c0_0) := (blk_cell BK619.out 0).trans rfl; have hfz4_0 := blk_frozen BK619.out 0))
  go_ret
  exact ⟨z43_3, z43_5⟩
 ·rw [if_neg c2] at H
  have c2b0 : decide (3 < (l0_0.length : Int)) = false := decide_eq_false c2
  have c2b1 : decide (3 < l0_0.length) = false := decide_eq_false (by omega)
  clear c2
  have H' := am_ H
  clear H
  go_enter Try.func43, Try.ntmps43
  go_wp2_with (first | ((with_reducible refine gate_dst (N := 1) rfl ?_); refine box_event ?hg (N := 1) ?hd (cs := #[.slice A0_0 l0_0.length c0_0]) (t := 35) ?hr ?_; (case hd => rfl); (case hg => rfl); (case hr => first | (go_simp; done) | (go_simp; rfl)); intro gb619 hg w5 hbox hb; have n0_ := am_ (below_step z43_4 hb); have n1_ := am_ (hbox); have n2_ := am_ (by rw [hg]; exact (below_size z43_4) : w.heap.size ≤ gb619); have n3_ := am_ (by rw [hg]; exact (below_size z43_4) : w.heap.size ≤ gb619); clear HB; have HB := n0_; have BK619 := n1_; have GW619 := n2_; have GE619 := n3_; clear n0_ n1_ n2_ n3_; clear hb hbox hg; have hcz6_0 : w5.cell? ⟨gb619, 0, none⟩ = some (.slice A0_0 l0_0.length c0_0) := (blk_cell BK619.out 0).trans rfl; have hfz6_0 := blk_frozen BK619.out 0))
  go_loopg [3, 4, 5] k (fun kq v3 v4 v5 w' => ∃ (x3_1 : Int) (x4_1 : Int) (x5_1 : Int), v3 = .int .i64 x3_1 ∧ v4 = .int .i64 x4_1 ∧ v5 = .int .i64 x5_1 ∧ Aside0 (spec_ProgOk.l0 kq x3_1 x4_1 x5_1 l0_0 = some r) ∧ Aside0 (kq ≤ k) ∧ Aside0 (w'.heap[gb619]? = some (.cells #[(.slice A0_0 l0_0.length c0_0)] 35 (0, 0))) ∧ Aside0 (Below w.heap.size w w'))
  case atStart => exact ⟨(0), (0), (0), z43_1, z43_1, z43_1, H', ⟨Nat.le_refl _⟩, ⟨bu BK619.out⟩, ⟨z43_5⟩⟩
  case round =>
   clear H'
   obtain ⟨x3_1, x4_1, x5_1, rfl, rfl, rfl, HA, HK1, BK619, HB⟩ := hrel
   cases gk with
   | zero => exact absurd HA.out (by simp [spec_ProgOk.l0])
   | succ k1 =>
    have H := HA.out
    clear HA
    simp only [spec_ProgOk.l0] at H
    by_cases c7 : x5_1 < (l0_0.length : Int)
    ·rw [if_pos c7] at H
     have c7b0 : decide (x5_1 < (l0_0.length : Int)) = true := decide_eq_true c7
     clear c7
     by_cases c8 : 0 ≤ x5_1
     ·rw [if_pos c8] at H
      have c8b0 : decide (0 ≤ x5_1) = true := decide_eq_true c8
      clear c8
      replace H := Option.bind_eq_some_iff.mp H
      obtain ⟨t621, A90, H⟩ := H
      replace H : (if t621 = true then (spec_ProgOk.l1 k1 (wrap64 (x3_1 + ((rd_L7 l0_0 x5_1).length : Int))) x4_1 x5_1 0 l0_0) else (some false)) = some r := H
      have A9 := am_ A90
      clear A90
      by_cases c10 : t621 = true
      ·subst c10
       have H1 : (spec_ProgOk.l1 k1 (wrap64 (x3_1 + ((rd_L7 l0_0 x5_1).length : Int))) x4_1 x5_1 0 l0_0) = some r := by rw [if_pos rfl] at H; exact H
       clear H
       have H := H1
       clear H1
       have H' := am_ H
       clear H
       have hcz11_0 : wr.cell? ⟨gb619, 0, none⟩ = some (.slice A0_0 l0_0.length c0_0) := (blk_cell BK619.out 0).trans rfl
       have hfz11_0 := blk_frozen BK619.out 0
       have p620 : 0 ≤ (x5_1 : Int) := of_decide_eq_true z43_2
       have q620 : x5_1 < (l0_0.length : Int) := of_decide_eq_true z43_2
       obtain ⟨ad620, A620_0, c620_0, e620, hx620_0, hl620_0, hi620_0⟩ := at_L7 HR0_0.out x5_1 p620 q620
       cases e620
       replace hx620_0 := (HB.out.cell (World.block_lt_of_cell? w _ hx620_0)).trans hx620_0
       have HR620_0 := am_ hi620_0
       have HC620_0 := am_ hl620_0
       clear hi620_0 hl620_0
       replace p620 := eq_true p620
       replace q620 := eq_true q620
       go_wp2_with (first | ((with_reducible refine gate_callee (f := 93) rfl ?_); refine goesL_ (some 23) rfl rfl Try.func93 (by kernel_rfl) rfl #[.slice A620_0 (rd_L7 l0_0 x5_1).length c620_0] rfl (by (try simp only [List.map_toArray, List.map_cons, List.map_nil]); first | done | rfl | (simp only [List.length_drop, List.length_take]; rfl)) ?_; (with_reducible refine (spec_l1Thread.calls k1 _ _ (rd_L7 l0_0 x5_1) true _ ?side1 ?side2 A9.out).mono ?_); (case side1 => repeat (first | exact (Kd.C_below HR620_0.out HB.out) | (with_reducible refine Kd.C_alloc ?_ _) | (with_reducible refine Kd.C_drewN ?_ _) | (with_reducible refine Kd.C_drew ?_))); (case side2 => exact HC620_0.out); rintro e w12 ⟨rfl, hb⟩; refine ⟨_, rfl, ?_⟩; have n0_ := am_ (blk_below (bu BK619.out) hb); have n1_ := am_ (below_step z43_5 hb); clear BK619 HB; have BK619 := n0_; have HB := n1_; clear n0_ n1_; (try clear hb); (try clear hb2); (try clear hk); (try clear hi); have hcz13_0 : w12.cell? ⟨gb619, 0, none⟩ = some (.slice (some ad620) l0_0.length c0_0) := (blk_cell BK619.out 0).trans rfl; have hfz13_0 := blk_frozen BK619.out 0; have p622 : 0 ≤ (x5_1 : Int) := of_decide_eq_true z43_2; have q622 : x5_1 < (l0_0.length : Int) := of_decide_eq_true z43_2; obtain ⟨ad622, A622_0, c622_0, e622, hx622_0, hl622_0, hi622_0⟩ := at_L7 HR0_0.out x5_1 p622 q622; obtain rfl : ad620 = ad622 := (by injection e622); replace hx622_0 := (HB.out.cell (World.block_lt_of_cell? w _ hx622_0)).trans hx622_0; have HR622_0 := am_ hi622_0; have HC622_0 := am_ hl622_0; clear hi622_0 hl622_0; replace p622 := eq_true p622; replace q622 := eq_true q622))
       go_loopg [4, 6] k1 (fun kq v4 v6 w' => ∃ (x4_2 : Int) (x6_2 : Int), v4 = .int .i64 x4_2 ∧ v6 = .int .i64 x6_2 ∧ Aside0 (spec_ProgOk.l1 kq (wrap64 (x3_1 + ((rd_L7 l0_0 x5_1).length : Int))) x4_2 x5_1 x6_2 l0_0 = some r) ∧ Aside0 (kq ≤ k1) ∧ Aside0 (w'.heap[gb619]? = some (.cells #[(.slice (some ad620) l0_0.length c0_0)] 35 (0, 0))) ∧ Aside0 (Below w.heap.size w w'))
       case atStart => exact ⟨(x4_1), (0), z43_1, z43_1, H', ⟨Nat.le_refl _⟩, ⟨bu BK619.out⟩, ⟨z43_5⟩⟩
       case round =>
        clear H'
        obtain ⟨x4_2, x6_2, rfl, rfl, HA, HK2, BK619, HB⟩ := hrel
        cases gk with
        | zero => exact absurd HA.out (by simp [spec_ProgOk.l1])
        | succ k2 =>
         have H := HA.out
         clear HA
         simp only [spec_ProgOk.l1] at H
         by_cases c14 : 0 ≤ x5_1
         ·rw [if_pos c14] at H
          have c14b0 : decide (0 ≤ x5_1) = true := decide_eq_true c14
          clear c14
          by_cases c15 : x5_1 < (l0_0.length : Int)
          ·rw [if_pos c15] at H
           have c15b0 : decide (x5_1 < (l0_0.length : Int)) = true := decide_eq_true c15
           clear c15
           by_cases c16 : x6_2 < ((rd_L7 l0_0 x5_1).length : Int)
           ·rw [if_pos c16] at H
            have c16b0 : decide (x6_2 < ((rd_L7 l0_0 x5_1).length : Int)) = true := decide_eq_true c16
            clear c16
            by_cases c17 : 0 ≤ x6_2
            ·rw [if_pos c17] at H
             have c17b0 : decide (0 ≤ x6_2) = true := decide_eq_true c17
             clear c17
             replace H := Option.bind_eq_some_iff.mp H
             obtain ⟨t626, A180, H⟩ := H
             replace H : (if t626 = true then (spec_ProgOk.l1 k2 (wrap64 (x3_1 + ((rd_L7 l0_0 x5_1).length : Int))) (wrap64 (x4_2 + 1)) x5_1 (wrap64 (x6_2 + 1)) l0_0) else ((spec_l1Writes.f ((rd_T85 (rd_L7 l0_0 x5_1) x6_2).f0) ((rd_T85 (rd_L7 l0_0 x5_1) x6_2).f1) ((rd_T85 (rd_L7 l0_0 x5_1) x6_2).f2)).bind fun t629 => (if t629 = true then (spec_ProgOk.l1 k2 (wrap64 (x3_1 + ((rd_L7 l0_0 x5_1).length : Int))) (wrap64 (x4_2 + 1)) x5_1 (wrap64 (x6_2 + 1)) l0_0) else (spec_ProgOk.l1 k2 (wrap64 (x3_1 + ((rd_L7 l0_0 x5_1).length : Int))) x4_2 x5_1 (wrap64 (x6_2 + 1)) l0_0)))) = some r := H
             have A18 := am_ A180
             clear A180
             by_cases c19 : t626 = true
             ·subst c19
              have H1 : (spec_ProgOk.l1 k2 (wrap64 (x3_1 + ((rd_L7 l0_0 x5_1).length : Int))) (wrap64 (x4_2 + 1)) x5_1 (wrap64 (x6_2 + 1)) l0_0) = some r := by rw [if_pos rfl] at H; exact H
              clear H
              have H := H1
              clear H1
              have H' := am_ H
              clear H
              have hcz20_0 : wr.cell? ⟨gb619, 0, none⟩ = some (.slice (some ad620) l0_0.length c0_0) := (blk_cell BK619.out 0).trans rfl
              have hfz20_0 := blk_frozen BK619.out 0
              have p623 : 0 ≤ (x5_1 : Int) := of_decide_eq_true z43_2
              have q623 : x5_1 < (l0_0.length : Int) := of_decide_eq_true z43_2
              obtain ⟨ad623, A623_0, c623_0, e623, hx623_0, hl623_0, hi623_0⟩ := at_L7 HR0_0.out x5_1 p623 q623
              obtain rfl : ad620 = ad623 := (by injection e623)
              replace hx623_0 := (HB.out.cell (World.block_lt_of_cell? w _ hx623_0)).trans hx623_0
              have HR623_0 := am_ hi623_0
              have HC623_0 := am_ hl623_0
              clear hi623_0 hl623_0
              replace p623 := eq_true p623
              replace q623 := eq_true q623
              have p624 : 0 ≤ (x5_1 : Int) := of_decide_eq_true z43_2
              have q624 : x5_1 < (l0_0.length : Int) := of_decide_eq_true z43_2
              obtain ⟨ad624, A624_0, c624_0, e624, hx624_0, hl624_0, hi624_0⟩ := at_L7 HR0_0.out x5_1 p624 q624
              obtain rfl : ad620 = ad624 := (by injection e624)
              replace hx624_0 := (HB.out.cell (World.block_lt_of_cell? w _ hx624_0)).trans hx624_0
              have HR624_0 := am_ hi624_0
              have HC624_0 := am_ hl624_0
              clear hi624_0 hl624_0
              replace p624 := eq_true p624
              replace q624 := eq_true q624
              have ea_ := Option.some.inj (hx623_0.symm.trans hx624_0)
              injection ea_ with ea_ en_ ec_
              subst ea_
              subst ec_
              clear en_
              have p625 : 0 ≤ (x6_2 : Int) := of_decide_eq_true z43_2
              have q625 : x6_2 < ((rd_L7 l0_0 x5_1).length : Int) := of_decide_eq_true z43_2
              obtain ⟨ad625, e625, hx625_0, hx625_1, hx625_2⟩ := at_T85 HR624_0.out x6_2 p625 q625
              cases e625
              replace hx625_0 := (HB.out.cell (World.block_lt_of_cell? w _ hx625_0)).trans hx625_0
              replace hx625_1 := (HB.out.cell (World.block_lt_of_cell? w _ hx625_1)).trans hx625_1
              replace hx625_2 := (HB.out.cell (World.block_lt_of_cell? w _ hx625_2)).trans hx625_2
              replace p625 := eq_true p625
              replace q625 := eq_true q625
              go_wp2_with (first | ((with_reducible refine gate_callee (f := 87) rfl ?_); refine goesL_ (some 51) rfl rfl Try.func87 (by kernel_rfl) rfl #[.agg #[.int .i64 ((rd_T85 (rd_L7 l0_0 x5_1) x6_2).f0), .int .i64 ((rd_T85 (rd_L7 l0_0 x5_1) x6_2).f1), .int .i64 ((rd_T85 (rd_L7 l0_0 x5_1) x6_2).f2)]] rfl (by (try simp only [List.map_toArray, List.map_cons, List.map_nil]); first | done | rfl | (simp only [List.length_drop, List.length_take]; rfl)) ?_; (with_reducible refine (spec_l1Reads.calls ((rd_T85 (rd_L7 l0_0 x5_1) x6_2).f0) ((rd_T85 (rd_L7 l0_0 x5_1) x6_2).f1) ((rd_T85 (rd_L7 l0_0 x5_1) x6_2).f2) true _ A18.out).mono ?_); rintro e w21 ⟨rfl, hb⟩; refine ⟨_, rfl, ?_⟩; have n0_ := am_ (blk_below (bu BK619.out) hb); have n1_ := am_ (below_step z43_5 hb); clear BK619 HB; have BK619 := n0_; have HB := n1_; clear n0_ n1_; (try clear hb); (try clear hb2); (try clear hk); (try clear hi)))
              go_roundg k2
              case measure => have := HK1.out; have := HK2.out; omega
              case rel => exact ⟨(wrap64 (x4_2 + 1)), (wrap64 (x6_2 + 1)), z43_1, z43_1, H', ⟨by have := HK1.out; have := HK2.out; omega⟩, ⟨bu BK619.out⟩, ⟨z43_5⟩⟩
             ·replace c19 := Bool.eq_false_iff.mpr c19
              subst c19
              have H1 : ((spec_l1Writes.f ((rd_T85 (rd_L7 l0_0 x5_1) x6_2).f0) ((rd_T85 (rd_L7 l0_0 x5_1) x6_2).f1) ((rd_T85 (rd_L7 l0_0 x5_1) x6_2).f2)).bind fun t629 => (if t629 = true then (spec_ProgOk.l1 k2 (wrap64 (x3_1 + ((rd_L7 l0_0 x5_1).length : Int))) (wrap64 (x4_2 + 1)) x5_1 (wrap64 (x6_2 + 1)) l0_0) else (spec_ProgOk.l1 k2 (wrap64 (x3_1 + ((rd_L7 l0_0 x5_1).length : Int))) x4_2 x5_1 (wrap64 (x6_2 + 1)) l0_0))) = some r := by rw [if_neg (show ¬ (false = true) by decide)] at H; exact H
              clear H
              have H := H1
              clear H1
              replace H := Option.bind_eq_some_iff.mp H
              obtain ⟨t629, A220, H⟩ := H
              replace H : (if t629 = true then (spec_ProgOk.l1 k2 (wrap64 (x3_1 + ((rd_L7 l0_0 x5_1).length : Int))) (wrap64 (x4_2 + 1)) x5_1 (wrap64 (x6_2 + 1)) l0_0) else (spec_ProgOk.l1 k2 (wrap64 (x3_1 + ((rd_L7 l0_0 x5_1).length : Int))) x4_2 x5_1 (wrap64 (x6_2 + 1)) l0_0)) = some r := H
              have A22 := am_ A220
              clear A220
              by_cases c23 : t629 = true
              ·subst c23
               have H1 : (spec_ProgOk.l1 k2 (wrap64 (x3_1 + ((rd_L7 l0_0 x5_1).length : Int))) (wrap64 (x4_2 + 1)) x5_1 (wrap64 (x6_2 + 1)) l0_0) = some r := by rw [if_pos rfl] at H; exact H
               clear H
               have H := H1
               clear H1
               have H' := am_ H
               clear H
               have hcz24_0 : wr.cell? ⟨gb619, 0, none⟩ = some (.slice (some ad620) l0_0.length c0_0) := (blk_cell BK619.out 0).trans rfl
               have hfz24_0 := blk_frozen BK619.out 0
               have p623 : 0 ≤ (x5_1 : Int) := of_decide_eq_true z43_2
               have q623 : x5_1 < (l0_0.length : Int) := of_decide_eq_true z43_2
               obtain ⟨ad623, A623_0, c623_0, e623, hx623_0, hl623_0, hi623_0⟩ := at_L7 HR0_0.out x5_1 p623 q623
               obtain rfl : ad620 = ad623 := (by injection e623)
               replace hx623_0 := (HB.out.cell (World.block_lt_of_cell? w _ hx623_0)).trans hx623_0
               have HR623_0 := am_ hi623_0
               have HC623_0 := am_ hl623_0
               clear hi623_0 hl623_0
               replace p623 := eq_true p623
               replace q623 := eq_true q623
               have p624 : 0 ≤ (x5_1 : Int) := of_decide_eq_true z43_2
               have q624 : x5_1 < (l0_0.length : Int) := of_decide_eq_true z43_2
               obtain ⟨ad624, A624_0, c624_0, e624, hx624_0, hl624_0, hi624_0⟩ := at_L7 HR0_0.out x5_1 p624 q624
               obtain rfl : ad620 = ad624 := (by injection e624)
               replace hx624_0 := (HB.out.cell (World.block_lt_of_cell? w _ hx624_0)).trans hx624_0
               have HR624_0 := am_ hi624_0
               have HC624_0 := am_ hl624_0
               clear hi624_0 hl624_0
               replace p624 := eq_true p624
               replace q624 := eq_true q624
               have ea_ := Option.some.inj (hx623_0.symm.trans hx624_0)
               injection ea_ with ea_ en_ ec_
               subst ea_
               subst ec_
               clear en_
               have p625 : 0 ≤ (x6_2 : Int) := of_decide_eq_true z43_2
               have q625 : x6_2 < ((rd_L7 l0_0 x5_1).length : Int) := of_decide_eq_true z43_2
               obtain ⟨ad625, e625, hx625_0, hx625_1, hx625_2⟩ := at_T85 HR624_0.out x6_2 p625 q625
               cases e625
               replace hx625_0 := (HB.out.cell (World.block_lt_of_cell? w _ hx625_0)).trans hx625_0
               replace hx625_1 := (HB.out.cell (World.block_lt_of_cell? w _ hx625_1)).trans hx625_1
               replace hx625_2 := (HB.out.cell (World.block_lt_of_cell? w _ hx625_2)).trans hx625_2
               replace p625 := eq_true p625
               replace q625 := eq_true q625
               go_wp2_with (first | ((with_reducible refine gate_callee (f := 87) rfl ?_); refine goesL_ (some 51) rfl rfl Try.func87 (by kernel_rfl) rfl #[.agg #[.int .i64 ((rd_T85 (rd_L7 l0_0 x5_1) x6_2).f0), .int .i64 ((rd_T85 (rd_L7 l0_0 x5_1) x6_2).f1), .int .i64 ((rd_T85 (rd_L7 l0_0 x5_1) x6_2).f2)]] rfl (by (try simp only [List.map_toArray, List.map_cons, List.map_nil]); first | done | rfl | (simp only [List.length_drop, List.length_take]; rfl)) ?_; (with_reducible refine (spec_l1Reads.calls ((rd_T85 (rd_L7 l0_0 x5_1) x6_2).f0) ((rd_T85 (rd_L7 l0_0 x5_1) x6_2).f1) ((rd_T85 (rd_L7 l0_0 x5_1) x6_2).f2) false _ A18.out).mono ?_); rintro e w25 ⟨rfl, hb⟩; refine ⟨_, rfl, ?_⟩; have n0_ := am_ (blk_below (bu BK619.out) hb); have n1_ := am_ (below_step z43_5 hb); clear BK619 HB; have BK619 := n0_; have HB := n1_; clear n0_ n1_; (try clear hb); (try clear hb2); (try clear hk); (try clear hi); have hcz26_0 : w25.cell? ⟨gb619, 0, none⟩ = some (.slice (some ad620) l0_0.length c0_0) := (blk_cell BK619.out 0).trans rfl; have hfz26_0 := blk_frozen BK619.out 0; have p627 : 0 ≤ (x5_1 : Int) := of_decide_eq_true z43_2; have q627 : x5_1 < (l0_0.length : Int) := of_decide_eq_true z43_2; obtain ⟨ad627, A627_0, c627_0, e627, hx627_0, hl627_0, hi627_0⟩ := at_L7 HR0_0.out x5_1 p627 q627; obtain rfl : ad620 = ad627 := (by injection e627); replace hx627_0 := (HB.out.cell (World.block_lt_of_cell? w _ hx627_0)).trans hx627_0; have HR627_0 := am_ hi627_0; have HC627_0 := am_ hl627_0; clear hi627_0 hl627_0; replace p627 := eq_true p627; replace q627 := eq_true q627; have p628 : 0 ≤ (x6_2 : Int) := of_decide_eq_true z43_2; have q628 : x6_2 < ((rd_L7 l0_0 x5_1).length : Int) := of_decide_eq_true z43_2; obtain ⟨ad628, e628, hx628_0, hx628_1, hx628_2⟩ := at_T85 HR627_0.out x6_2 p628 q628; cases e628; replace hx628_0 := (HB.out.cell (World.block_lt_of_cell? w _ hx628_0)).trans hx628_0; replace hx628_1 := (HB.out.cell (World.block_lt_of_cell? w _ hx628_1)).trans hx628_1; replace hx628_2 := (HB.out.cell (World.block_lt_of_cell? w _ hx628_2)).trans hx628_2; replace p628 := eq_true p628; replace q628 := eq_true q628) | (go_at_call 88; (with_reducible refine (spec_l1Writes.calls ((rd_T85 (rd_L7 l0_0 x5_1) x6_2).f0) ((rd_T85 (rd_L7 l0_0 x5_1) x6_2).f1) ((rd_T85 (rd_L7 l0_0 x5_1) x6_2).f2) true _ A22.out).mono ?_); rintro e w27 ⟨rfl, hb⟩; have n0_ := am_ (blk_below (bu BK619.out) hb); have n1_ := am_ (below_step z43_5 hb); clear BK619 HB; have BK619 := n0_; have HB := n1_; clear n0_ n1_; (try clear hb); (try clear hb2); (try clear hk); (try clear hi)))
               go_roundg k2
               case measure => have := HK1.out; have := HK2.out; omega
               case rel => exact ⟨(wrap64 (x4_2 + 1)), (wrap64 (x6_2 + 1)), z43_1, z43_1, H', ⟨by have := HK1.out; have := HK2.out; omega⟩, ⟨bu BK619.out⟩, ⟨z43_5⟩⟩
              ·replace c23 := Bool.eq_false_iff.mpr c23
               subst c23
               have H1 : (spec_ProgOk.l1 k2 (wrap64 (x3_1 + ((rd_L7 l0_0 x5_1).length : Int))) x4_2 x5_1 (wrap64 (x6_2 + 1)) l0_0) = some r := by rw [if_neg (show ¬ (false = true) by decide)] at H; exact H
               clear H
               have H := H1
               clear H1
               have H' := am_ H
               clear H
               have hcz28_0 : wr.cell? ⟨gb619, 0, none⟩ = some (.slice (some ad620) l0_0.length c0_0) := (blk_cell BK619.out 0).trans rfl
               have hfz28_0 := blk_frozen BK619.out 0
               have p623 : 0 ≤ (x5_1 : Int) := of_decide_eq_true z43_2
               have q623 : x5_1 < (l0_0.length : Int) := of_decide_eq_true z43_2
               obtain ⟨ad623, A623_0, c623_0, e623, hx623_0, hl623_0, hi623_0⟩ := at_L7 HR0_0.out x5_1 p623 q623
               obtain rfl : ad620 = ad623 := (by injection e623)
               replace hx623_0 := (HB.out.cell (World.block_lt_of_cell? w _ hx623_0)).trans hx623_0
               have HR623_0 := am_ hi623_0
               have HC623_0 := am_ hl623_0
               clear hi623_0 hl623_0
               replace p623 := eq_true p623
               replace q623 := eq_true q623
               have p624 : 0 ≤ (x5_1 : Int) := of_decide_eq_true z43_2
               have q624 : x5_1 < (l0_0.length : Int) := of_decide_eq_true z43_2
               obtain ⟨ad624, A624_0, c624_0, e624, hx624_0, hl624_0, hi624_0⟩ := at_L7 HR0_0.out x5_1 p624 q624
               obtain rfl : ad620 = ad624 := (by injection e624)
               replace hx624_0 := (HB.out.cell (World.block_lt_of_cell? w _ hx624_0)).trans hx624_0
               have HR624_0 := am_ hi624_0
               have HC624_0 := am_ hl624_0
               clear hi624_0 hl624_0
               replace p624 := eq_true p624
               replace q624 := eq_true q624
               have ea_ := Option.some.inj (hx623_0.symm.trans hx624_0)
               injection ea_ with ea_ en_ ec_
               subst ea_
               subst ec_
               clear en_
               have p625 : 0 ≤ (x6_2 : Int) := of_decide_eq_true z43_2
               have q625 : x6_2 < ((rd_L7 l0_0 x5_1).length : Int) := of_decide_eq_true z43_2
               obtain ⟨ad625, e625, hx625_0, hx625_1, hx625_2⟩ := at_T85 HR624_0.out x6_2 p625 q625
               cases e625
               replace hx625_0 := (HB.out.cell (World.block_lt_of_cell? w _ hx625_0)).trans hx625_0
               replace hx625_1 := (HB.out.cell (World.block_lt_of_cell? w _ hx625_1)).trans hx625_1
               replace hx625_2 := (HB.out.cell (World.block_lt_of_cell? w _ hx625_2)).trans hx625_2
               replace p625 := eq_true p625
               replace q625 := eq_true q625
               go_wp2_with (first | ((with_reducible refine gate_callee (f := 87) rfl ?_); refine goesL_ (some 51) rfl rfl Try.func87 (by kernel_rfl) rfl #[.agg #[.int .i64 ((rd_T85 (rd_L7 l0_0 x5_1) x6_2).f0), .int .i64 ((rd_T85 (rd_L7 l0_0 x5_1) x6_2).f1), .int .i64 ((rd_T85 (rd_L7 l0_0 x5_1) x6_2).f2)]] rfl (by (try simp only [List.map_toArray, List.map_cons, List.map_nil]); first | done | rfl | (simp only [List.length_drop, List.length_take]; rfl)) ?_; (with_reducible refine (spec_l1Reads.calls ((rd_T85 (rd_L7 l0_0 x5_1) x6_2).f0) ((rd_T85 (rd_L7 l0_0 x5_1) x6_2).f1) ((rd_T85 (rd_L7 l0_0 x5_1) x6_2).f2) false _ A18.out).mono ?_); rintro e w29 ⟨rfl, hb⟩; refine ⟨_, rfl, ?_⟩; have n0_ := am_ (blk_below (bu BK619.out) hb); have n1_ := am_ (below_step z43_5 hb); clear BK619 HB; have BK619 := n0_; have HB := n1_; clear n0_ n1_; (try clear hb); (try clear hb2); (try clear hk); (try clear hi); have hcz30_0 : w29.cell? ⟨gb619, 0, none⟩ = some (.slice (some ad620) l0_0.length c0_0) := (blk_cell BK619.out 0).trans rfl; have hfz30_0 := blk_frozen BK619.out 0; have p627 : 0 ≤ (x5_1 : Int) := of_decide_eq_true z43_2; have q627 : x5_1 < (l0_0.length : Int) := of_decide_eq_true z43_2; obtain ⟨ad627, A627_0, c627_0, e627, hx627_0, hl627_0, hi627_0⟩ := at_L7 HR0_0.out x5_1 p627 q627; obtain rfl : ad620 = ad627 := (by injection e627); replace hx627_0 := (HB.out.cell (World.block_lt_of_cell? w _ hx627_0)).trans hx627_0; have HR627_0 := am_ hi627_0; have HC627_0 := am_ hl627_0; clear hi627_0 hl627_0; replace p627 := eq_true p627; replace q627 := eq_true q627; have p628 : 0 ≤ (x6_2 : Int) := of_decide_eq_true z43_2; have q628 : x6_2 < ((rd_L7 l0_0 x5_1).length : Int) := of_decide_eq_true z43_2; obtain ⟨ad628, e628, hx628_0, hx628_1, hx628_2⟩ := at_T85 HR627_0.out x6_2 p628 q628; cases e628; replace hx628_0 := (HB.out.cell (World.block_lt_of_cell? w _ hx628_0)).trans hx628_0; replace hx628_1 := (HB.out.cell (World.block_lt_of_cell? w _ hx628_1)).trans hx628_1; replace hx628_2 := (HB.out.cell (World.block_lt_of_cell? w _ hx628_2)).trans hx628_2; replace p628 := eq_true p628; replace q628 := eq_true q628) | (go_at_call 88; (with_reducible refine (spec_l1Writes.calls ((rd_T85 (rd_L7 l0_0 x5_1) x6_2).f0) ((rd_T85 (rd_L7 l0_0 x5_1) x6_2).f1) ((rd_T85 (rd_L7 l0_0 x5_1) x6_2).f2) false _ A22.out).mono ?_); rintro e w31 ⟨rfl, hb⟩; have n0_ := am_ (blk_below (bu BK619.out) hb); have n1_ := am_ (below_step z43_5 hb); clear BK619 HB; have BK619 := n0_; have HB := n1_; clear n0_ n1_; (try clear hb); (try clear hb2); (try clear hk); (try clear hi)))
               go_roundg k2
               case measure => have := HK1.out; have := HK2.out; omega
               case rel => exact ⟨(x4_2), (wrap64 (x6_2 + 1)), z43_1, z43_1, H', ⟨by have := HK1.out; have := HK2.out; omega⟩, ⟨bu BK619.out⟩, ⟨z43_5⟩⟩
            ·rw [if_neg c17] at H
             exact absurd H (by simp)
           ·rw [if_neg c16] at H
            have c16b0 : decide (x6_2 < ((rd_L7 l0_0 x5_1).length : Int)) = false := decide_eq_false c16
            clear c16
            have H' := am_ H
            clear H
            have hcz32_0 : wr.cell? ⟨gb619, 0, none⟩ = some (.slice (some ad620) l0_0.length c0_0) := (blk_cell BK619.out 0).trans rfl
            have hfz32_0 := blk_frozen BK619.out 0
            have p623 : 0 ≤ (x5_1 : Int) := of_decide_eq_true z43_2
            have q623 : x5_1 < (l0_0.length : Int) := of_decide_eq_true z43_2
            obtain ⟨ad623, A623_0, c623_0, e623, hx623_0, hl623_0, hi623_0⟩ := at_L7 HR0_0.out x5_1 p623 q623
            obtain rfl : ad620 = ad623 := (by injection e623)
            replace hx623_0 := (HB.out.cell (World.block_lt_of_cell? w _ hx623_0)).trans hx623_0
            have HR623_0 := am_ hi623_0
            have HC623_0 := am_ hl623_0
            clear hi623_0 hl623_0
            replace p623 := eq_true p623
            replace q623 := eq_true q623
            go_wp2
            go_roundg k2
            case measure => have := HK1.out; have := HK2.out; omega
            case rel => exact ⟨((wrap64 (x3_1 + ((rd_L7 l0_0 x5_1).length : Int)))), (x4_2), (wrap64 (x5_1 + 1)), z43_1, z43_1, z43_1, H', ⟨by have := HK1.out; have := HK2.out; omega⟩, ⟨bu BK619.out⟩, ⟨z43_5⟩⟩
          ·rw [if_neg c15] at H
           exact absurd H (by simp)
         ·rw [if_neg c14] at H
          exact absurd H (by simp)
      ·replace c10 := Bool.eq_false_iff.mpr c10
       subst c10
       have H1 : (some false) = some r := by rw [if_neg (show ¬ (false = true) by decide)] at H; exact H
       clear H
       have H := H1
       clear H1
       obtain rfl := Option.some.inj H
       have hcz33_0 : wr.cell? ⟨gb619, 0, none⟩ = some (.slice A0_0 l0_0.length c0_0) := (blk_cell BK619.out 0).trans rfl
       have hfz33_0 := blk_frozen BK619.out 0
       have p620 : 0 ≤ (x5_1 : Int) := of_decide_eq_true z43_2
       have q620 : x5_1 < (l0_0.length : Int) := of_decide_eq_true z43_2
       obtain ⟨ad620, A620_0, c620_0, e620, hx620_0, hl620_0, hi620_0⟩ := at_L7 HR0_0.out x5_1 p620 q620
       cases e620
       replace hx620_0 := (HB.out.cell (World.block_lt_of_cell? w _ hx620_0)).trans hx620_0
       have HR620_0 := am_ hi620_0
       have HC620_0 := am_ hl620_0
       clear hi620_0 hl620_0
       replace p620 := eq_true p620
       replace q620 := eq_true q620
       go_wp2_with (first | ((with_reducible refine gate_callee (f := 93) rfl ?_); refine goesL_ (some 23) rfl rfl Try.func93 (by kernel_rfl) rfl #[.slice A620_0 (rd_L7 l0_0 x5_1).length c620_0] rfl (by (try simp only [List.map_toArray, List.map_cons, List.map_nil]); first | done | rfl | (simp only [List.length_drop, List.length_take]; rfl)) ?_; (with_reducible refine (spec_l1Thread.calls k1 _ _ (rd_L7 l0_0 x5_1) false _ ?side1 ?side2 A9.out).mono ?_); (case side1 => repeat (first | exact (Kd.C_below HR620_0.out HB.out) | (with_reducible refine Kd.C_alloc ?_ _) | (with_reducible refine Kd.C_drewN ?_ _) | (with_reducible refine Kd.C_drew ?_))); (case side2 => exact HC620_0.out); rintro e w34 ⟨rfl, hb⟩; refine ⟨_, rfl, ?_⟩; have n0_ := am_ (blk_below (bu BK619.out) hb); have n1_ := am_ (below_step z43_5 hb); clear BK619 HB; have BK619 := n0_; have HB := n1_; clear n0_ n1_; (try clear hb); (try clear hb2); (try clear hk); (try clear hi)))
       go_ret
       exact ⟨z43_3, z43_5⟩
     ·rw [if_neg c8] at H
      exact absurd H (by simp)
    ·rw [if_neg c7] at H
     have c7b0 : decide (x5_1 < (l0_0.length : Int)) = false := decide_eq_false c7
     clear c7
     by_cases c35 : x3_1 ≤ 14
     ·rw [if_pos c35] at H
      have c35b0 : decide (x3_1 ≤ 14) = true := decide_eq_true c35
      clear c35
      obtain rfl := Option.some.inj H
      have hcz36_0 : wr.cell? ⟨gb619, 0, none⟩ = some (.slice A0_0 l0_0.length c0_0) := (blk_cell BK619.out 0).trans rfl
      have hfz36_0 := blk_frozen BK619.out 0
      go_wp2
      go_ret
      exact ⟨z43_3, z43_5⟩
     ·rw [if_neg c35] at H
      have c35b0 : decide (x3_1 ≤ 14) = false := decide_eq_false c35
      clear c35
      obtain rfl := Option.some.inj H
      have hcz37_0 : wr.cell? ⟨gb619, 0, none⟩ = some (.slice A0_0 l0_0.length c0_0) := (blk_cell BK619.out 0).trans rfl
      have hfz37_0 := blk_frozen BK619.out 0
      go_wp2
      go_ret
      exact ⟨z43_3, z43_5⟩

end Go.Proofs.Ytefkbmhkhpekjaa.PB

namespace Go.Proofs.Ytefkbmhkhpekjaa.PB
open Go.RowKit Go.Proofs.YtefkbmhkhpekjaaW.PrintWords Go.Proofs.YtefkbmhkhpekjaaW.PrintLast Go.Proofs.YtefkbmhkhpekjaaW.PrintMore
attribute [local go_sem] max2_int min2_int max_two min_two max_three min_three max_four min_four   -- for this text's walks alone
open Go.Proofs.YtefkbmhkhpekjaaMine
set_option linter.unusedVariables false
set_option linter.unusedSimpArgs false

theorem z101_1 {p : Prop} (h : p := by first | rfl | (simp; done) | (simp [*]; done)) : p := h
theorem z101_2 {p : Prop} (h : p := by first | (with_reducible assumption) | assumption) : p := h
theorem z101_3 {p : Prop} (h : p := by repeat (first | exact Drawn0.refl _ | apply Drawn0.step)) : p := h
/-! ### spec_l12Has: function 101 -/
def spec_l12Has.l0 : Nat → List Int → Int → Int → Option (Bool)
  | 0, _, _, _ => none
  | k + 1, x0, x1, x5 => if x5 < (x0.length : Int) then (if 0 ≤ x5 then (if (rd x0 x5) = x1 then (some true) else (spec_l12Has.l0 k x0 x1 (wrap64 (x5 + 1)))) else (none)) else (some false)
def spec_l12Has.f (k : Nat) (l0 : List Int) (a1 : Int) : Option (Bool) := spec_l12Has.l0 k l0 a1 0
theorem spec_l12Has.mono_l : ∀ k, (∀ y0 y1 y2, LeO (spec_l12Has.l0 k y0 y1 y2) (spec_l12Has.l0 (k + 1) y0 y1 y2))
  | 0 => fun _ _ _ r h => by simp [spec_l12Has.l0] at h
  | k + 1 => by
    have ih0 := spec_l12Has.mono_l k
    · intro y0 y1 y2
      unfold spec_l12Has.l0
      repeat' first
      | (with_reducible exact ih0 _ _ _)
      | (with_reducible exact LeO.refl _)
      | (with_reducible exact LeO.none _)
      | (with_reducible refine LeO.ite ?_ ?_)
      | (with_reducible refine LeO.bind ?_ (fun _ => ?_))
      | exact ih0 _ _ _
      | exact LeO.none _
      | refine LeO.ite ?_ ?_
      | refine LeO.bind ?_ (fun _ => ?_)
theorem spec_l12Has.mono : ∀ a0 a1 k, LeO (spec_l12Has.f k a0 a1) (spec_l12Has.f (k + 1) a0 a1) := by
  intro a0 a1 k
  have ih0 := spec_l12Has.mono_l k
  unfold spec_l12Has.f
  repeat' first
      | (with_reducible exact ih0 _ _ _)
      | (with_reducible exact LeO.refl _)
      | (with_reducible exact LeO.none _)
      | (with_reducible refine LeO.ite ?_ ?_)
      | (with_reducible refine LeO.bind ?_ (fun _ => ?_))
      | exact ih0 _ _ _
      | exact LeO.none _
      | refine LeO.ite ?_ ?_
      | refine LeO.bind ?_ (fun _ => ?_)
set_option maxHeartbeats 8000000 in
set_option maxRecDepth 100000 in
theorem spec_l12Has.calls (k : Nat) (A0 : Option Addr) (c0 : Nat) (l0 : List Int) (a1 : Int) (r : Bool) (w : World) (hr0 : Kd.C (Kd.int .i64) w A0 l0.length l0) (hc0 : l0.length ≤ c0) (h : spec_l12Has.f k l0 a1 = some r) :
  Calls Try.prog 101 #[.slice A0 l0.length c0, .int .i64 a1] w fun e w' => e = .returned (.bool r) ∧ Drawn0 w w' := by
 have HR0 := am_ hr0
 have HC0 := am_ hc0
 clear hr0 hc0
 have H : (spec_l12Has.l0 k l0 a1 0) = some r := h
 clear h
 have H' := am_ H
 clear H
 go_enter Try.func101, Try.ntmps101
 go_wp2
 go_loopg [5] k (fun kq v5 w' => ∃ (x5_1 : Int), v5 = .int .i64 x5_1 ∧ Aside0 (spec_l12Has.l0 kq l0 a1 x5_1 = some r) ∧ Aside0 (kq ≤ k) ∧ Drawn0 w w')
 case atStart => exact ⟨(0), z101_1, H', ⟨Nat.le_refl _⟩, z101_3⟩
 case round =>
  clear H'
  obtain ⟨x5_1, rfl, HA, HK1, ⟨m1, rfl⟩⟩ := hrel
  cases gk with
  | zero => exact absurd HA.out (by simp [spec_l12Has.l0])
  | succ k1 =>
   have H := HA.out
   clear HA
   simp only [spec_l12Has.l0] at H
   by_cases c3 : x5_1 < (l0.length : Int)
   ·rw [if_pos c3] at H
    have c3b0 : decide (x5_1 < (l0.length : Int)) = true := decide_eq_true c3
    clear c3
    by_cases c4 : 0 ≤ x5_1
    ·rw [if_pos c4] at H
     have c4b0 : decide (0 ≤ x5_1) = true := decide_eq_true c4
     clear c4
     by_cases c5 : (rd l0 x5_1) = a1
     ·rw [if_pos c5] at H
      have c5b0 : ((rd l0 x5_1) == a1) = true := beq_iff_eq.mpr c5
      have c5b1 : ((rd l0 x5_1) != a1) = false := bne_eq_false_iff_eq.mpr c5
      clear c5
      obtain rfl := Option.some.inj H
      have p950 : 0 ≤ (x5_1 : Int) := of_decide_eq_true z101_2
      have q950 : x5_1 < (l0.length : Int) := of_decide_eq_true z101_2
      obtain ⟨ad950, e950, hx950_0⟩ := Kd.at_int HR0.out x5_1 p950 q950
      cases e950
      replace p950 := eq_true p950
      replace q950 := eq_true q950
      go_wp2
      go_ret
      exact ⟨z101_1, z101_3⟩
     ·rw [if_neg c5] at H
      have c5b0 : ((rd l0 x5_1) == a1) = false := beq_eq_false_iff_ne.mpr c5
      have c5b1 : ((rd l0 x5_1) != a1) = true := bne_iff_ne.mpr c5
      have H' := am_ H
      clear H
      have p950 : 0 ≤ (x5_1 : Int) := of_decide_eq_true z101_2
      have q950 : x5_1 < (l0.length : Int) := of_decide_eq_true z101_2
      obtain ⟨ad950, e950, hx950_0⟩ := Kd.at_int HR0.out x5_1 p950 q950
      cases e950
      replace p950 := eq_true p950
      replace q950 := eq_true q950
      go_wp2
      go_roundg k1
      case measure => have := HK1.out; omega
      case rel => exact ⟨(wrap64 (x5_1 + 1)), z101_1, H', ⟨by have := HK1.out; omega⟩, z101_3⟩
    ·rw [if_neg c4] at H
     exact absurd H (by simp)
   ·rw [if_neg c3] at H
    have c3b0 : decide (x5_1 < (l0.length : Int)) = false := decide_eq_false c3
    clear c3
    obtain rfl := Option.some.inj H
    go_wp2
    go_ret
    exact ⟨z101_1, z101_3⟩

end Go.Proofs.Ytefkbmhkhpekjaa.PB

namespace Go.Proofs.Ytefkbmhkhpekjaa.PB
open Go.RowKit Go.Proofs.YtefkbmhkhpekjaaW.PrintWords Go.Proofs.YtefkbmhkhpekjaaW.PrintLast Go.Proofs.YtefkbmhkhpekjaaW.PrintMore
attribute [local go_sem] max2_int min2_int max_two min_two max_three min_three max_four min_four   -- for this text's walks alone
open Go.Proofs.YtefkbmhkhpekjaaMine
set_option linter.unusedVariables false
set_option linter.unusedSimpArgs false

theorem z100_1 {p : Prop} (h : p := by first | rfl | (simp; done) | (simp [*]; done)) : p := h
theorem z100_2 {p : Prop} (h : p := by repeat (first | exact Drawn0.refl _ | apply Drawn0.step)) : p := h
/-! ### spec_l22Row: function 100 -/
def spec_l22Row.l0 : Nat → List Int → Int → Int → Option (Bool)
  | 0, _, _, _ => none
  | k + 1, x0, x1, x5 => if x5 < x1 then ((spec_l12Has.f k x0 x5).bind fun t998 => (if t998 = true then (spec_l22Row.l0 k x0 x1 (wrap64 (x5 + 1))) else (some false))) else (some true)
def spec_l22Row.f (k : Nat) (l0 : List Int) (a1 : Int) : Option (Bool) := if (l0.length : Int) = a1 then (spec_l22Row.l0 k l0 a1 0) else (some false)
theorem spec_l22Row.mono_l : ∀ k, (∀ y0 y1 y2, LeO (spec_l22Row.l0 k y0 y1 y2) (spec_l22Row.l0 (k + 1) y0 y1 y2))
  | 0 => fun _ _ _ r h => by simp [spec_l22Row.l0] at h
  | k + 1 => by
    have ih0 := spec_l22Row.mono_l k
    · intro y0 y1 y2
      unfold spec_l22Row.l0
      repeat' first
      | (with_reducible exact ih0 _ _ _)
      | (with_reducible exact spec_l12Has.mono _ _ _)
      | (with_reducible exact LeO.refl _)
      | (with_reducible exact LeO.none _)
      | (with_reducible refine LeO.ite ?_ ?_)
      | (with_reducible refine LeO.bind ?_ (fun _ => ?_))
      | exact ih0 _ _ _
      | exact spec_l12Has.mono _ _ _
      | exact LeO.none _
      | refine LeO.ite ?_ ?_
      | refine LeO.bind ?_ (fun _ => ?_)
theorem spec_l22Row.mono : ∀ a0 a1 k, LeO (spec_l22Row.f k a0 a1) (spec_l22Row.f (k + 1) a0 a1) := by
  intro a0 a1 k
  have ih0 := spec_l22Row.mono_l k
  unfold spec_l22Row.f
  repeat' first
      | (with_reducible exact ih0 _ _ _)
      | (with_reducible exact spec_l12Has.mono _ _ _)
      | (with_reducible exact LeO.refl _)
      | (with_reducible exact LeO.none _)
      | (with_reducible refine LeO.ite ?_ ?_)
      | (with_reducible refine LeO.bind ?_ (fun _ => ?_))
      | exact ih0 _ _ _
      | exact spec_l12Has.mono _ _ _
      | exact LeO.none _
      | refine LeO.ite ?_ ?_
      | refine LeO.bind ?_ (fun _ => ?_)
set_option maxHeartbeats 8000000 in
set_option maxRecDepth 100000 in
theorem spec_l22Row.calls (k : Nat) (A0 : Option Addr) (c0 : Nat) (l0 : List Int) (a1 : Int) (r : Bool) (w : World) (hr0 : Kd.C (Kd.int .i64) w A0 l0.length l0) (hc0 : l0.length ≤ c0) (h : spec_l22Row.f k l0 a1 = some r) :
  Calls Try.prog 100 #[.slice A0 l0.length c0, .int .i64 a1] w fun e w' => e = .returned (.bool r) ∧ Drawn0 w w' := by
 have HR0 := am_ hr0
 have HC0 := am_ hc0
 clear hr0 hc0
 have H : (if (l0.length : Int) = a1 then (spec_l22Row.l0 k l0 a1 0) else (some false)) = some r := h
 clear h
 by_cases c3 : (l0.length : Int) = a1
 ·rw [if_pos c3] at H
  have c3b0 : ((l0.length : Int) == a1) = true := beq_iff_eq.mpr c3
  have c3b1 : ((l0.length : Int) != a1) = false := bne_eq_false_iff_eq.mpr c3
  clear c3
  have H' := am_ H
  clear H
  go_enter Try.func100, Try.ntmps100
  go_wp2
  go_loopg [5] k (fun kq v5 w' => ∃ (x5_1 : Int), v5 = .int .i64 x5_1 ∧ Aside0 (spec_l22Row.l0 kq l0 a1 x5_1 = some r) ∧ Aside0 (kq ≤ k) ∧ Drawn0 w w')
  case atStart => exact ⟨(0), z100_1, H', ⟨Nat.le_refl _⟩, z100_2⟩
  case round =>
   clear H'
   obtain ⟨x5_1, rfl, HA, HK1, ⟨m1, rfl⟩⟩ := hrel
   cases gk with
   | zero => exact absurd HA.out (by simp [spec_l22Row.l0])
   | succ k1 =>
    have H := HA.out
    clear HA
    simp only [spec_l22Row.l0] at H
    by_cases c4 : x5_1 < a1
    ·rw [if_pos c4] at H
     have c4b0 : decide (x5_1 < a1) = true := decide_eq_true c4
     clear c4
     replace H := Option.bind_eq_some_iff.mp H
     obtain ⟨t998, A50, H⟩ := H
     replace H : (if t998 = true then (spec_l22Row.l0 k1 l0 a1 (wrap64 (x5_1 + 1))) else (some false)) = some r := H
     have A5 := am_ A50
     clear A50
     by_cases c6 : t998 = true
     ·subst c6
      have H1 : (spec_l22Row.l0 k1 l0 a1 (wrap64 (x5_1 + 1))) = some r := by rw [if_pos rfl] at H; exact H
      clear H
      have H := H1
      clear H1
      have H' := am_ H
      clear H
      go_wp2_with (first | ((with_reducible refine gate_callee (f := 101) rfl ?_); refine goesL_ (some 17) rfl rfl Try.func101 (by kernel_rfl) rfl #[.slice A0 l0.length c0, .int .i64 x5_1] rfl (by (try simp only [List.map_toArray, List.map_cons, List.map_nil]); first | done | rfl | (simp only [List.length_drop, List.length_take]; rfl)) ?_; (with_reducible refine (spec_l12Has.calls k1 _ _ l0 x5_1 true _ ?side1 ?side2 A5.out).mono ?_); (case side1 => repeat (first | exact HR0.out | (with_reducible refine Kd.C_alloc ?_ _) | (with_reducible refine Kd.C_drewN ?_ _) | (with_reducible refine Kd.C_drew ?_))); (case side2 => exact HC0.out); rintro e w' ⟨rfl, ⟨nd, rfl⟩⟩; refine ⟨_, rfl, ?_⟩))
      go_roundg k1
      case measure => have := HK1.out; omega
      case rel => exact ⟨(wrap64 (x5_1 + 1)), z100_1, H', ⟨by have := HK1.out; omega⟩, z100_2⟩
     ·replace c6 := Bool.eq_false_iff.mpr c6
      subst c6
      have H1 : (some false) = some r := by rw [if_neg (show ¬ (false = true) by decide)] at H; exact H
      clear H
      have H := H1
      clear H1
      obtain rfl := Option.some.inj H
      go_wp2_with (first | ((with_reducible refine gate_callee (f := 101) rfl ?_); refine goesL_ (some 17) rfl rfl Try.func101 (by kernel_rfl) rfl #[.slice A0 l0.length c0, .int .i64 x5_1] rfl (by (try simp only [List.map_toArray, List.map_cons, List.map_nil]); first | done | rfl | (simp only [List.length_drop, List.length_take]; rfl)) ?_; (with_reducible refine (spec_l12Has.calls k1 _ _ l0 x5_1 false _ ?side1 ?side2 A5.out).mono ?_); (case side1 => repeat (first | exact HR0.out | (with_reducible refine Kd.C_alloc ?_ _) | (with_reducible refine Kd.C_drewN ?_ _) | (with_reducible refine Kd.C_drew ?_))); (case side2 => exact HC0.out); rintro e w' ⟨rfl, ⟨nd, rfl⟩⟩; refine ⟨_, rfl, ?_⟩))
      go_ret
      exact ⟨z100_1, z100_2⟩
    ·rw [if_neg c4] at H
     have c4b0 : decide (x5_1 < a1) = false := decide_eq_false c4
     clear c4
     obtain rfl := Option.some.inj H
     go_wp2
     go_ret
     exact ⟨z100_1, z100_2⟩
 ·rw [if_neg c3] at H
  have c3b0 : ((l0.length : Int) == a1) = false := beq_eq_false_iff_ne.mpr c3
  have c3b1 : ((l0.length : Int) != a1) = true := bne_iff_ne.mpr c3
  obtain rfl := Option.some.inj H
  go_enter Try.func100, Try.ntmps100
  go_wp2
  go_ret
  exact ⟨z100_1, z100_2⟩

end Go.Proofs.Ytefkbmhkhpekjaa.PB

namespace Go.Proofs.Ytefkbmhkhpekjaa.PB
open Go.RowKit Go.Proofs.YtefkbmhkhpekjaaW.PrintWords Go.Proofs.YtefkbmhkhpekjaaW.PrintLast Go.Proofs.YtefkbmhkhpekjaaW.PrintMore
attribute [local go_sem] max2_int min2_int max_two min_two max_three min_three max_four min_four   -- for this text's walks alone
open Go.Proofs.YtefkbmhkhpekjaaMine
set_option linter.unusedVariables false
set_option linter.unusedSimpArgs false

theorem z51_1 {p : Prop} (h : p := by first | rfl | (simp; done) | (simp [*]; done)) : p := h
theorem z51_2 {p : Prop} (h : p := by first | (with_reducible assumption) | assumption) : p := h
theorem z51_3 {p : Prop} (h : p := by first | rfl | (simp [errW_none, errW_some] <;> rfl) | (simp [*, errW_none, errW_some] <;> rfl)) : p := h
theorem z51_4 {p : Prop} (h : p := by repeat (first | (with_reducible first | exact HB.out | apply below_alloc | apply pw_below_drewN | apply below_drew1) | exact HB.out)) : p := h
theorem z51_5 {p : Prop} (h : p := by first | exact Kd.S_nil _ _ _ _ _ | exact Kd.N_nil _ _ _ _ _ | exact Kd.V_nil _ _ _ _ _ | exact Kd.Q_nil _ _ _ _ _ | exact Kd.R_nil _ _ _ _ _) : p := h
theorem z51_6 {p : Prop} (h : p := by repeat (first | (with_reducible first | exact HB.out | apply below_alloc | apply pw_below_drewN | apply below_drew1 | refine below_set ?_ GE1044.out) | exact HB.out)) : p := h
theorem z51_7 {p : Prop} (h : p := by repeat (first | (with_reducible first | exact HB.out | apply below_alloc | apply pw_below_drewN | apply below_drew1 | refine below_set ?_ GE1044.out | refine below_set ?_ GE1045.out) | exact HB.out)) : p := h
theorem z51_8 {p : Prop} (h : p := by repeat (first | (with_reducible first | exact HB.out | apply below_alloc | apply pw_below_drewN | apply below_drew1 | refine below_set ?_ GE1044.out | refine below_set ?_ GE1045.out | refine below_set ?_ GE1049.out) | exact HB.out)) : p := h
theorem z51_9 {p : Prop} (h : p := by (with_reducible repeat (first | refine blk_drewN ?_ _ | refine blk_drew ?_ | refine blk_alloc ?_ _)); refine blk_far ?_ NB1044_1049.out _; (with_reducible repeat (first | refine blk_drewN ?_ _ | refine blk_drew ?_ | refine blk_alloc ?_ _)); exact BK1044.out) : p := h
theorem z51_10 {p : Prop} (h : p := by (with_reducible repeat (first | refine blk_drewN ?_ _ | refine blk_drew ?_ | refine blk_alloc ?_ _)); refine blk_far ?_ NB1045_1049.out _; (with_reducible repeat (first | refine blk_drewN ?_ _ | refine blk_drew ?_ | refine blk_alloc ?_ _)); exact BK1045.out) : p := h
theorem z51_11 {p : Prop} (h : p := by (with_reducible repeat (first | refine blk_drewN ?_ _ | refine blk_drew ?_ | refine blk_alloc ?_ _)); refine blk_put (cs := #[.slice none 0 0]) ?_ 0 _ rfl; (with_reducible repeat (first | refine blk_drewN ?_ _ | refine blk_drew ?_ | refine blk_alloc ?_ _)); exact BK1045.out) : p := h
/-! ### spec_TurnVals: function 51 -/
mutual
def spec_TurnVals.j0 : Nat → List Int → Bool → List (List (S85)) → Option ((List (List (S85))) × Bool)
  | 0, _, _, _ => none
  | k + 1, x1, x23, x1045000 => if x23 = true then (some (([] : List (List (S85))), false)) else (spec_TurnVals.l0 k x1 0 x1045000 ([] : List (List (S85))))
def spec_TurnVals.l0 : Nat → List Int → Int → List (List (S85)) → List (List (S85)) → Option ((List (List (S85))) × Bool)
  | 0, _, _, _, _ => none
  | k + 1, x1, x7, x1045000, x1050000 => if x7 < (x1045000.length : Int) then ((some (([] : List (S85)) : List (S85))).bind fun y1050 => (if 0 ≤ x7 then (if y1050.length + (rd_L7 x1045000 x7).length < 5864062014805 then (spec_TurnVals.l1 k x1 x7 (y1050 ++ (rd_L7 x1045000 x7)) 0 x1045000 x1050000) else (none)) else (none))) else (some (x1050000, true))
def spec_TurnVals.l1 : Nat → List Int → Int → List (S85) → Int → List (List (S85)) → List (List (S85)) → Option ((List (List (S85))) × Bool)
  | 0, _, _, _, _, _, _ => none
  | k + 1, x1, x7, x8, x9, x1045000, x1050000 => if x9 < (x8.length : Int) then (if 0 ≤ x9 then (if 0 ≤ ((rd_T85 x8 x9).f2) then (if ((rd_T85 x8 x9).f2) < (x1.length : Int) then (spec_TurnVals.l1 k x1 x7 (x8.set (x9 : Int).toNat (⟨(rd_T85 x8 x9).f0, (rd_T85 x8 x9).f1, rd x1 ((rd_T85 x8 x9).f2)⟩ : S85)) (wrap64 (x9 + 1)) x1045000 x1050000) else (none)) else (none)) else (none)) else (if x1050000.length < 5864062014805 then (spec_TurnVals.l0 k x1 (wrap64 (x7 + 1)) x1045000 (x1050000 ++ [x8])) else (none))
end
def spec_TurnVals.f (k : Nat) (l0_0 : List (List (S85))) (l1 : List Int) : Option ((List (List (S85))) × Bool) := (spec_ProgOk.f k l0_0).bind fun t1046 => (if t1046 = true then ((spec_l22Row.f k l1 4).bind fun t1047 => (if t1047 = true then (if 0 < (l1.length : Int) then (spec_TurnVals.j0 k l1 ((rd l1 0) != 0) l0_0) else (none)) else (spec_TurnVals.j0 k l1 true l0_0))) else (spec_TurnVals.j0 k l1 true l0_0))
theorem spec_TurnVals.mono_l : ∀ k, (∀ y0 y1 y2, LeO (spec_TurnVals.j0 k y0 y1 y2) (spec_TurnVals.j0 (k + 1) y0 y1 y2)) ∧ (∀ y0 y1 y2 y3, LeO (spec_TurnVals.l0 k y0 y1 y2 y3) (spec_TurnVals.l0 (k + 1) y0 y1 y2 y3)) ∧ (∀ y0 y1 y2 y3 y4 y5, LeO (spec_TurnVals.l1 k y0 y1 y2 y3 y4 y5) (spec_TurnVals.l1 (k + 1) y0 y1 y2 y3 y4 y5))
  | 0 => ⟨fun _ _ _ r h => by simp [spec_TurnVals.j0] at h, fun _ _ _ _ r h => by simp [spec_TurnVals.l0] at h, fun _ _ _ _ _ _ r h => by simp [spec_TurnVals.l1] at h⟩
  | k + 1 => by
    obtain ⟨ih0, ih1, ih2⟩ := spec_TurnVals.mono_l k
    refine ⟨?_, ?_, ?_⟩
    · intro y0 y1 y2
      unfold spec_TurnVals.j0
      repeat' first
      | (with_reducible exact ih0 _ _ _)
      | (with_reducible exact ih1 _ _ _ _)
      | (with_reducible exact ih2 _ _ _ _ _ _)
      | (with_reducible exact spec_ProgOk.mono _ _)
      | (with_reducible exact spec_l22Row.mono _ _ _)
      | (with_reducible exact LeO.refl _)
      | (with_reducible exact LeO.none _)
      | (with_reducible refine LeO.ite ?_ ?_)
      | (with_reducible refine LeO.bind ?_ (fun _ => ?_))
      | exact ih0 _ _ _
      | exact ih1 _ _ _ _
      | exact ih2 _ _ _ _ _ _
      | exact spec_ProgOk.mono _ _
      | exact spec_l22Row.mono _ _ _
      | exact LeO.none _
      | refine LeO.ite ?_ ?_
      | refine LeO.bind ?_ (fun _ => ?_)
    · intro y0 y1 y2 y3
      unfold spec_TurnVals.l0
      repeat' first
      | (with_reducible exact ih0 _ _ _)
      | (with_reducible exact ih1 _ _ _ _)
      | (with_reducible exact ih2 _ _ _ _ _ _)
      | (with_reducible exact spec_ProgOk.mono _ _)
      | (with_reducible exact spec_l22Row.mono _ _ _)
      | (with_reducible exact LeO.refl _)
      | (with_reducible exact LeO.none _)
      | (with_reducible refine LeO.ite ?_ ?_)
      | (with_reducible refine LeO.bind ?_ (fun _ => ?_))
      | exact ih0 _ _ _
      | exact ih1 _ _ _ _
      | exact ih2 _ _ _ _ _ _
      | exact spec_ProgOk.mono _ _
      | exact spec_l22Row.mono _ _ _
      | exact LeO.none _
      | refine LeO.ite ?_ ?_
      | refine LeO.bind ?_ (fun _ => ?_)
    · intro y0 y1 y2 y3 y4 y5
      unfold spec_TurnVals.l1
      repeat' first
      | (with_reducible exact ih0 _ _ _)
      | (with_reducible exact ih1 _ _ _ _)
      | (with_reducible exact ih2 _ _ _ _ _ _)
      | (with_reducible exact spec_ProgOk.mono _ _)
      | (with_reducible exact spec_l22Row.mono _ _ _)
      | (with_reducible exact LeO.refl _)
      | (with_reducible exact LeO.none _)
      | (with_reducible refine LeO.ite ?_ ?_)
      | (with_reducible refine LeO.bind ?_ (fun _ => ?_))
      | exact ih0 _ _ _
      | exact ih1 _ _ _ _
      | exact ih2 _ _ _ _ _ _
      | exact spec_ProgOk.mono _ _
      | exact spec_l22Row.mono _ _ _
      | exact LeO.none _
      | refine LeO.ite ?_ ?_
      | refine LeO.bind ?_ (fun _ => ?_)
theorem spec_TurnVals.mono : ∀ a0 a1 k, LeO (spec_TurnVals.f k a0 a1) (spec_TurnVals.f (k + 1) a0 a1) := by
  intro a0 a1 k
  obtain ⟨ih0, ih1, ih2⟩ := spec_TurnVals.mono_l k
  unfold spec_TurnVals.f
  repeat' first
      | (with_reducible exact ih0 _ _ _)
      | (with_reducible exact ih1 _ _ _ _)
      | (with_reducible exact ih2 _ _ _ _ _ _)
      | (with_reducible exact spec_ProgOk.mono _ _)
      | (with_reducible exact spec_l22Row.mono _ _ _)
      | (with_reducible exact LeO.refl _)
      | (with_reducible exact LeO.none _)
      | (with_reducible refine LeO.ite ?_ ?_)
      | (with_reducible refine LeO.bind ?_ (fun _ => ?_))
      | exact ih0 _ _ _
      | exact ih1 _ _ _ _
      | exact ih2 _ _ _ _ _ _
      | exact spec_ProgOk.mono _ _
      | exact spec_l22Row.mono _ _ _
      | exact LeO.none _
      | refine LeO.ite ?_ ?_
      | refine LeO.bind ?_ (fun _ => ?_)
set_option maxHeartbeats 8000000 in
set_option maxRecDepth 100000 in
theorem spec_TurnVals.calls (k : Nat) (A0_0 : Option Addr) (c0_0 : Nat) (l0_0 : List (List (S85))) (A1 : Option Addr) (c1 : Nat) (l1 : List Int) (r1 : List (List (S85))) (r2 : Bool) (w : World) (hr0_0 : Kd.C (Kd.slice 85 k85) w A0_0 l0_0.length l0_0) (hc0_0 : l0_0.length ≤ c0_0) (hr1 : Kd.C (Kd.int .i64) w A1 l1.length l1) (hc1 : l1.length ≤ c1) (h : spec_TurnVals.f k l0_0 l1 = some (r1, r2)) :
  Calls Try.prog 51 #[.agg #[.slice A0_0 l0_0.length c0_0], .slice A1 l1.length c1] w fun e w' => ∃ v0_ : Value, e = .returned (.tuple #[.agg #[v0_], .bool r2]) ∧ Kd.S (Kd.slice 85 k85) 82 w' w.heap.size (fun _ => True) v0_ r1 ∧ Below w.heap.size w w' := by
 have hu35 := Try.underlying35
 have HR0_0 := am_ hr0_0
 have HC0_0 := am_ hc0_0
 clear hr0_0 hc0_0
 have HR1 := am_ hr1
 have HC1 := am_ hc1
 clear hr1 hc1
 have HB := am_ (Below.refl w.heap.size w)
 have H : ((spec_ProgOk.f k l0_0).bind fun t1046 => (if t1046 = true then ((spec_l22Row.f k l1 4).bind fun t1047 => (if t1047 = true then (if 0 < (l1.length : Int) then (spec_TurnVals.j0 k l1 ((rd l1 0) != 0) l0_0) else (none)) else (spec_TurnVals.j0 k l1 true l0_0))) else (spec_TurnVals.j0 k l1 true l0_0))) = some (r1, r2) := h
 clear h
 have HC3 := am_ H
 clear H
 go_enter Try.func51, Try.ntmps51
 go_upto_region 1 with (first | ((with_reducible refine gate_dst (N := 2) rfl ?_); refine box_event ?hg (N := 2) ?hd (cs := #[.slice A0_0 l0_0.length c0_0]) (t := 35) ?hr ?_; (case hd => rfl); (case hg => rfl); (case hr => first | (go_simp; done) | (go_simp; rfl)); intro gb1044 hg w4 hbox hb; have n0_ := am_ (below_step z51_4 hb); have n1_ := am_ (hbox); have n2_ := am_ (by rw [hg]; exact (below_size z51_4) : w.heap.size ≤ gb1044); have n3_ := am_ (by rw [hg]; exact (below_size z51_4) : w.heap.size ≤ gb1044); clear HB; have HB := n0_; have BK1044 := n1_; have GW1044 := n2_; have GE1044 := n3_; clear n0_ n1_ n2_ n3_; clear hb hbox hg) | ((with_reducible refine gate_dst (N := 4) rfl ?_); refine box_event ?hg (N := 4) ?hd (cs := #[.slice none 0 0]) (t := 35) ?hr ?_; (case hd => rfl); (case hg => rfl); (case hr => first | (go_simp; done) | (go_simp; rfl)); intro gb1045 hg w5 hbox hb; have n0_ := am_ (blk_below (bu BK1044.out) hb); have n1_ := am_ (below_step z51_6 hb); have n2_ := am_ (hbox); have n3_ := am_ (by rw [hg]; exact (below_size z51_6) : w.heap.size ≤ gb1045); have n4_ := am_ (by rw [hg]; exact (below_size z51_6) : w.heap.size ≤ gb1045); have n5_ := am_ (by rw [hg]; exact Nat.ne_of_lt (blk_lt (bu BK1044.out)) : gb1044 ≠ gb1045); have n6_ := am_ (by rw [hg]; exact Nat.ne_of_gt (blk_lt (bu BK1044.out)) : gb1045 ≠ gb1044); clear BK1044 HB; have BK1044 := n0_; have HB := n1_; have BK1045 := n2_; have GW1045 := n3_; have GE1045 := n4_; have NB1044_1045 := n5_; have NB1045_1044 := n6_; clear n0_ n1_ n2_ n3_ n4_ n5_ n6_; clear hb hbox hg))
 (try simp only [Act.put, List.setIfInBounds_toArray, List.set_cons_zero, List.set_cons_succ])
 go_cut [23] (fun v23 wc => ∃ (kq : Nat) (x23_2 : Bool), v23 = .bool x23_2 ∧ Aside0 (spec_TurnVals.j0 kq l1 x23_2 l0_0 = some (r1, r2)) ∧ Aside0 (kq ≤ k) ∧ Aside0 (wc.heap[gb1044]? = some (.cells #[(.slice A0_0 l0_0.length c0_0)] 35 (0, 0))) ∧ Aside0 (wc.heap[gb1045]? = some (.cells #[(.slice none 0 0)] 35 (0, 0))) ∧ Aside0 (Below w.heap.size w wc))
 case first =>
  have H := HC3.out
  clear HC3
  replace H := Option.bind_eq_some_iff.mp H
  obtain ⟨t1046, A60, H⟩ := H
  replace H : (if t1046 = true then ((spec_l22Row.f k l1 4).bind fun t1047 => (if t1047 = true then (if 0 < (l1.length : Int) then (spec_TurnVals.j0 k l1 ((rd l1 0) != 0) l0_0) else (none)) else (spec_TurnVals.j0 k l1 true l0_0))) else (spec_TurnVals.j0 k l1 true l0_0)) = some (r1, r2) := H
  have A6 := am_ A60
  clear A60
  by_cases c7 : t1046 = true
  ·subst c7
   have H1 : ((spec_l22Row.f k l1 4).bind fun t1047 => (if t1047 = true then (if 0 < (l1.length : Int) then (spec_TurnVals.j0 k l1 ((rd l1 0) != 0) l0_0) else (none)) else (spec_TurnVals.j0 k l1 true l0_0))) = some (r1, r2) := by rw [if_pos rfl] at H; exact H
   clear H
   have H := H1
   clear H1
   replace H := Option.bind_eq_some_iff.mp H
   obtain ⟨t1047, A80, H⟩ := H
   replace H : (if t1047 = true then (if 0 < (l1.length : Int) then (spec_TurnVals.j0 k l1 ((rd l1 0) != 0) l0_0) else (none)) else (spec_TurnVals.j0 k l1 true l0_0)) = some (r1, r2) := H
   have A8 := am_ A80
   clear A80
   by_cases c9 : t1047 = true
   ·subst c9
    have H1 : (if 0 < (l1.length : Int) then (spec_TurnVals.j0 k l1 ((rd l1 0) != 0) l0_0) else (none)) = some (r1, r2) := by rw [if_pos rfl] at H; exact H
    clear H
    have H := H1
    clear H1
    by_cases c10 : 0 < (l1.length : Int)
    ·rw [if_pos c10] at H
     have c10b0 : decide (0 < (l1.length : Int)) = true := decide_eq_true c10
     have c10b1 : decide (0 < l1.length) = true := decide_eq_true (by omega)
     clear c10
     (first | rw [c10b0] | (simp only [i64_w, i32_w]; rw [c10b0]) | skip)
     have H' := am_ H
     clear H
     have hnb11 := NB1044_1045.out
     have hnc11 := NB1045_1044.out
     have hcz12_0 : w5.cell? ⟨gb1044, 0, none⟩ = some (.slice A0_0 l0_0.length c0_0) := (blk_cell BK1044.out 0).trans rfl
     have hfz12_0 := blk_frozen BK1044.out 0
     go_wp2_with (first | ((with_reducible refine gate_callee (f := 43) rfl ?_); refine goesL_ (some 11) rfl rfl Try.func43 (by kernel_rfl) rfl #[.agg #[.slice A0_0 l0_0.length c0_0]] rfl (by (try simp only [List.map_toArray, List.map_cons, List.map_nil]); first | done | rfl | (simp only [List.length_drop, List.length_take]; rfl)) ?_; (with_reducible refine (spec_ProgOk.calls k _ _ l0_0 true _ ?side1 ?side2 A6.out).mono ?_); (case side1 => repeat (first | exact (Kd.C_below HR0_0.out HB.out) | (with_reducible refine Kd.C_alloc ?_ _) | (with_reducible refine Kd.C_drewN ?_ _) | (with_reducible refine Kd.C_drew ?_))); (case side2 => exact HC0_0.out); rintro e w13 ⟨rfl, hb⟩; refine ⟨_, rfl, ?_⟩; have n0_ := am_ (blk_below (bu BK1044.out) hb); have n1_ := am_ (blk_below (bu BK1045.out) hb); have n2_ := am_ (below_step z51_7 hb); clear BK1044 BK1045 HB; have BK1044 := n0_; have BK1045 := n1_; have HB := n2_; clear n0_ n1_ n2_; (try clear hb); (try clear hb2); (try clear hk); (try clear hi)) | (go_at_call 100; (with_reducible refine (spec_l22Row.calls k _ _ l1 4 true _ ?side1 ?side2 A8.out).mono ?_); (case side1 => repeat (first | exact (Kd.C_below HR1.out HB.out) | (with_reducible refine Kd.C_alloc ?_ _) | (with_reducible refine Kd.C_drewN ?_ _) | (with_reducible refine Kd.C_drew ?_))); (case side2 => exact HC1.out); rintro e w' ⟨rfl, ⟨nd, rfl⟩⟩; have p1048 : 0 ≤ (0 : Int) := (by omega); have q1048 : 0 < (l1.length : Int) := of_decide_eq_true z51_2; obtain ⟨ad1048, e1048, hx1048_0⟩ := Kd.at_int HR1.out 0 p1048 q1048; cases e1048; have qi1048 : (0 < l1.length) = True := eq_true (by omega); (try rw [show ((0 : Int)).toNat = 0 from rfl] at hx1048_0); (try rw [Addr.add_zero'] at hx1048_0); replace hx1048_0 := (HB.out.cell (World.block_lt_of_cell? w _ hx1048_0)).trans hx1048_0; replace p1048 := eq_true p1048; replace q1048 := eq_true q1048))
     go_meet
     case rel => exact ⟨_, (((rd l1 0) != 0)), z51_1, H', ⟨by first | omega | exact Nat.le_refl _⟩, ⟨bu BK1044.out⟩, ⟨bu BK1045.out⟩, ⟨z51_7⟩⟩
    ·rw [if_neg c10] at H
     exact absurd H (by simp)
   ·replace c9 := Bool.eq_false_iff.mpr c9
    subst c9
    have H1 : (spec_TurnVals.j0 k l1 true l0_0) = some (r1, r2) := by rw [if_neg (show ¬ (false = true) by decide)] at H; exact H
    clear H
    have H := H1
    clear H1
    have H' := am_ H
    clear H
    have hnb14 := NB1044_1045.out
    have hnc14 := NB1045_1044.out
    have hcz15_0 : w5.cell? ⟨gb1044, 0, none⟩ = some (.slice A0_0 l0_0.length c0_0) := (blk_cell BK1044.out 0).trans rfl
    have hfz15_0 := blk_frozen BK1044.out 0
    go_wp2_with (first | ((with_reducible refine gate_callee (f := 43) rfl ?_); refine goesL_ (some 11) rfl rfl Try.func43 (by kernel_rfl) rfl #[.agg #[.slice A0_0 l0_0.length c0_0]] rfl (by (try simp only [List.map_toArray, List.map_cons, List.map_nil]); first | done | rfl | (simp only [List.length_drop, List.length_take]; rfl)) ?_; (with_reducible refine (spec_ProgOk.calls k _ _ l0_0 true _ ?side1 ?side2 A6.out).mono ?_); (case side1 => repeat (first | exact (Kd.C_below HR0_0.out HB.out) | (with_reducible refine Kd.C_alloc ?_ _) | (with_reducible refine Kd.C_drewN ?_ _) | (with_reducible refine Kd.C_drew ?_))); (case side2 => exact HC0_0.out); rintro e w16 ⟨rfl, hb⟩; refine ⟨_, rfl, ?_⟩; have n0_ := am_ (blk_below (bu BK1044.out) hb); have n1_ := am_ (blk_below (bu BK1045.out) hb); have n2_ := am_ (below_step z51_7 hb); clear BK1044 BK1045 HB; have BK1044 := n0_; have BK1045 := n1_; have HB := n2_; clear n0_ n1_ n2_; (try clear hb); (try clear hb2); (try clear hk); (try clear hi)) | (go_at_call 100; (with_reducible refine (spec_l22Row.calls k _ _ l1 4 false _ ?side1 ?side2 A8.out).mono ?_); (case side1 => repeat (first | exact (Kd.C_below HR1.out HB.out) | (with_reducible refine Kd.C_alloc ?_ _) | (with_reducible refine Kd.C_drewN ?_ _) | (with_reducible refine Kd.C_drew ?_))); (case side2 => exact HC1.out); rintro e w' ⟨rfl, ⟨nd, rfl⟩⟩))
    go_meet
    case rel => exact ⟨_, (true), z51_1, H', ⟨by first | omega | exact Nat.le_refl _⟩, ⟨bu BK1044.out⟩, ⟨bu BK1045.out⟩, ⟨z51_7⟩⟩
  ·replace c7 := Bool.eq_false_iff.mpr c7
   subst c7
   have H1 : (spec_TurnVals.j0 k l1 true l0_0) = some (r1, r2) := by rw [if_neg (show ¬ (false = true) by decide)] at H; exact H
   clear H
   have H := H1
   clear H1
   have H' := am_ H
   clear H
   have hnb17 := NB1044_1045.out
   have hnc17 := NB1045_1044.out
   have hcz18_0 : w5.cell? ⟨gb1044, 0, none⟩ = some (.slice A0_0 l0_0.length c0_0) := (blk_cell BK1044.out 0).trans rfl
   have hfz18_0 := blk_frozen BK1044.out 0
   go_wp2_with (first | ((with_reducible refine gate_callee (f := 43) rfl ?_); refine goesL_ (some 11) rfl rfl Try.func43 (by kernel_rfl) rfl #[.agg #[.slice A0_0 l0_0.length c0_0]] rfl (by (try simp only [List.map_toArray, List.map_cons, List.map_nil]); first | done | rfl | (simp only [List.length_drop, List.length_take]; rfl)) ?_; (with_reducible refine (spec_ProgOk.calls k _ _ l0_0 false _ ?side1 ?side2 A6.out).mono ?_); (case side1 => repeat (first | exact (Kd.C_below HR0_0.out HB.out) | (with_reducible refine Kd.C_alloc ?_ _) | (with_reducible refine Kd.C_drewN ?_ _) | (with_reducible refine Kd.C_drew ?_))); (case side2 => exact HC0_0.out); rintro e w19 ⟨rfl, hb⟩; refine ⟨_, rfl, ?_⟩; have n0_ := am_ (blk_below (bu BK1044.out) hb); have n1_ := am_ (blk_below (bu BK1045.out) hb); have n2_ := am_ (below_step z51_7 hb); clear BK1044 BK1045 HB; have BK1044 := n0_; have BK1045 := n1_; have HB := n2_; clear n0_ n1_ n2_; (try clear hb); (try clear hb2); (try clear hk); (try clear hi)))
   go_meet
   case rel => exact ⟨_, (true), z51_1, H', ⟨by first | omega | exact Nat.le_refl _⟩, ⟨bu BK1044.out⟩, ⟨bu BK1045.out⟩, ⟨z51_7⟩⟩
 case rest =>
  clear HC3
  obtain ⟨kq, x23_2, rfl, HA, HJ2, BK1044, BK1045, HB⟩ := hcut
  cases kq with
  | zero => exact absurd HA.out (by simp [spec_TurnVals.j0])
  | succ kj2 =>
   have H := HA.out
   clear HA
   simp only [spec_TurnVals.j0] at H
   by_cases c20 : x23_2 = true
   ·subst c20
    have H1 : (some (([] : List (List (S85))), false)) = some (r1, r2) := by rw [if_pos rfl] at H; exact H
    clear H
    have H := H1
    clear H1
    simp only [Option.some.injEq, Prod.mk.injEq] at H
    obtain ⟨rfl, rfl⟩ := H
    have hnb21 := NB1045_1044.out
    have hnc21 := NB1044_1045.out
    have hcz22_0 : wc.cell? ⟨gb1045, 0, none⟩ = some (.slice none 0 0) := (blk_cell BK1045.out 0).trans rfl
    have hfz22_0 := blk_frozen BK1045.out 0
    go_wp2
    refine bodyPost_ret (results_ct rfl _ _ gb1045 35 #[.slice none 0 0] (0, 0) _ rfl z51_11 Try.underlying35 rfl (by kernel_rfl)) rfl ?_
    exact ⟨_, z51_3, z51_5, z51_7⟩
   ·replace c20 := Bool.eq_false_iff.mpr c20
    subst c20
    have H1 : (spec_TurnVals.l0 kj2 l1 0 l0_0 ([] : List (List (S85)))) = some (r1, r2) := by rw [if_neg (show ¬ (false = true) by decide)] at H; exact H
    clear H
    have H := H1
    clear H1
    have H' := am_ H
    clear H
    go_wp2_with (first | ((with_reducible refine gate_dst (N := 6) rfl ?_); refine box_event ?hg (N := 6) ?hd (cs := #[.slice none 0 0]) (t := 35) ?hr ?_; (case hd => rfl); (case hg => rfl); (case hr => first | (go_simp; done) | (go_simp; rfl)); intro gb1049 hg w23 hbox hb; have n0_ := am_ (blk_below (bu BK1044.out) hb); have n1_ := am_ (blk_below (bu BK1045.out) hb); have n2_ := am_ (below_step z51_7 hb); have n3_ := am_ (hbox); have n4_ := am_ (by rw [hg]; exact (below_size z51_7) : w.heap.size ≤ gb1049); have n5_ := am_ (by rw [hg]; exact (below_size z51_7) : w.heap.size ≤ gb1049); have n6_ := am_ (by rw [hg]; exact Nat.ne_of_lt (blk_lt (bu BK1044.out)) : gb1044 ≠ gb1049); have n7_ := am_ (by rw [hg]; exact Nat.ne_of_gt (blk_lt (bu BK1044.out)) : gb1049 ≠ gb1044); have n8_ := am_ (by rw [hg]; exact Nat.ne_of_lt (blk_lt (bu BK1045.out)) : gb1045 ≠ gb1049); have n9_ := am_ (by rw [hg]; exact Nat.ne_of_gt (blk_lt (bu BK1045.out)) : gb1049 ≠ gb1045); clear BK1044 BK1045 HB; have BK1044 := n0_; have BK1045 := n1_; have HB := n2_; have BK1049 := n3_; have GW1049 := n4_; have GE1049 := n5_; have NB1044_1049 := n6_; have NB1049_1044 := n7_; have NB1045_1049 := n8_; have NB1049_1045 := n9_; clear n0_ n1_ n2_ n3_ n4_ n5_ n6_ n7_ n8_ n9_; clear hb hbox hg; have hnb24 := NB1049_1044.out; have hnc24 := NB1044_1049.out; have hnb25 := NB1049_1045.out; have hnc25 := NB1045_1049.out; have hcz26_0 : w23.cell? ⟨gb1049, 0, none⟩ = some (.slice none 0 0) := (blk_cell BK1049.out 0).trans rfl; have hfz26_0 := blk_frozen BK1049.out 0))
    go_loopg [7] kj2 (fun kq v7 w' => ∃ (x7_2 : Int) (x1050000_2 : List (List (S85))) (u1050000 : Value), v7 = .int .i64 x7_2 ∧ Aside0 (spec_TurnVals.l0 kq l1 x7_2 l0_0 x1050000_2 = some (r1, r2)) ∧ Aside0 (kq ≤ kj2) ∧ Aside0 (Kd.S (Kd.slice 85 k85) 82 w' w.heap.size (fun _ => True) u1050000 x1050000_2) ∧ Aside0 (w'.heap[gb1044]? = some (.cells #[(.slice A0_0 l0_0.length c0_0)] 35 (0, 0))) ∧ Aside0 (w'.heap[gb1045]? = some (.cells #[(.slice none 0 0)] 35 (0, 0))) ∧ Aside0 (w'.heap[gb1049]? = some (.cells #[u1050000] 35 (0, 0))) ∧ Aside0 (Below w.heap.size w w'))
    case atStart => exact ⟨(0), (([] : List (List (S85)))), (.slice none 0 0), z51_1, H', ⟨Nat.le_refl _⟩, ⟨z51_5⟩, ⟨z51_9⟩, ⟨z51_10⟩, ⟨by (with_reducible repeat (first | refine blk_drewN ?_ _ | refine blk_drew ?_ | refine blk_alloc ?_ _)); refine blk_put (cs := #[.slice none 0 0]) ?_ 0 _ rfl; (with_reducible repeat (first | refine blk_drewN ?_ _ | refine blk_drew ?_ | refine blk_alloc ?_ _)); exact BK1049.out⟩, ⟨z51_8⟩⟩
    case round =>
     clear H'
     obtain ⟨x7_2, x1050000_2, u1050000, rfl, HA, HK2, HO_1050000, BK1044, BK1045, BK1049, HB⟩ := hrel
     cases gk with
     | zero => exact absurd HA.out (by simp [spec_TurnVals.l0])
     | succ k2 =>
      have H := HA.out
      clear HA
      simp only [spec_TurnVals.l0] at H
      by_cases c27 : x7_2 < (l0_0.length : Int)
      ·rw [if_pos c27] at H
       have c27b0 : decide (x7_2 < (l0_0.length : Int)) = true := decide_eq_true c27
       clear c27
       obtain ⟨y1050, hy1050⟩ : ∃ y_ : List (S85), y_ = (([] : List (S85))) := ⟨_, rfl⟩
       replace H : (if 0 ≤ x7_2 then (if y1050.length + (rd_L7 l0_0 x7_2).length < 5864062014805 then (spec_TurnVals.l1 k2 l1 x7_2 (y1050 ++ (rd_L7 l0_0 x7_2)) 0 l0_0 x1050000_2) else (none)) else (none)) = some (r1, r2) := by first | (rw [hy1050]; with_reducible exact H) | (have H2_ := (Option.bind_some _ _).symm.trans H; rw [hy1050]; with_reducible exact H2_) | (have H2_ := (Option.bind_some _ _).symm.trans H; with_reducible exact H2_) | with_reducible exact H | (rw [hy1050]; exact H) | exact H
       have Ny1050 := am_ hy1050
       clear hy1050
       by_cases c28 : 0 ≤ x7_2
       ·rw [if_pos c28] at H
        have c28b0 : decide (0 ≤ x7_2) = true := decide_eq_true c28
        clear c28
        by_cases c29 : y1050.length + (rd_L7 l0_0 x7_2).length < 5864062014805
        ·rw [if_pos c29] at H
         have LMc29 := am_ c29
         clear c29
         obtain ⟨y1054, hy1054⟩ : ∃ y_ : List (S85), y_ = (y1050 ++ (rd_L7 l0_0 x7_2)) := ⟨_, rfl⟩
         replace H : (spec_TurnVals.l1 k2 l1 x7_2 y1054 0 l0_0 x1050000_2) = some (r1, r2) := by first | (rw [hy1054]; with_reducible exact H) | (have H2_ := (Option.bind_some _ _).symm.trans H; rw [hy1054]; with_reducible exact H2_) | (have H2_ := (Option.bind_some _ _).symm.trans H; with_reducible exact H2_) | with_reducible exact H | (rw [hy1054]; exact H) | exact H
         have Ny1054 := am_ hy1054
         clear hy1054
         have H' := am_ H
         clear H
         have hnb30 := NB1044_1045.out
         have hnc30 := NB1045_1044.out
         have hnb31 := NB1044_1049.out
         have hnc31 := NB1049_1044.out
         have hcz32_0 : wr.cell? ⟨gb1044, 0, none⟩ = some (.slice A0_0 l0_0.length c0_0) := (blk_cell BK1044.out 0).trans rfl
         have hfz32_0 := blk_frozen BK1044.out 0
         go_wp2_with (first | ((with_reducible refine gate_dst (N := 33) rfl ?_); refine Kd.R_lit k85 _ 85 ?hg (N := 33) ?hd (xs := ([] : List (S85))) (inner := []) (ok := fun _ => True) (okp := fun _ => True) ?hr ?hp (fun _ hk => hk) trivial (Below.refl _ _) (Nat.le_refl _) (by simp) ?_; (case hd => rfl); (case hg => rfl); (case hr => first | (go_simp; done) | (go_simp; rfl)); (case hp => exact (Reps.none _ _)); intro v1051 w33 ho34 hb hg_ hnew_; clear hg_ hnew_; (first | rw [← Ny1050.out] at ho34 | (simp only [Int.reduceToNat] at ho34; rw [← Ny1050.out] at ho34)); have n0_ := am_ (Kd.S_elder' (su HO_1050000.out) (Kd.R_base ho34) hb); have n1_ := am_ (Kd.R_lower ho34 (below_size z51_8)); have n2_ := am_ (blk_below (bu BK1044.out) hb); have n3_ := am_ (blk_below (bu BK1045.out) hb); have n4_ := am_ (blk_below (bu BK1049.out) hb); have n5_ := am_ (below_step z51_8 hb); clear HO_1050000 BK1044 BK1045 BK1049 HB; have HO_1050000 := n0_; have HO1052 := n1_; have BK1044 := n2_; have BK1045 := n3_; have BK1049 := n4_; have HB := n5_; clear n0_ n1_ n2_ n3_ n4_ n5_; clear hb ho34; have hcz35_0 : w33.cell? ⟨gb1044, 0, none⟩ = some (.slice A0_0 l0_0.length c0_0) := (blk_cell BK1044.out 0).trans rfl; have hfz35_0 := blk_frozen BK1044.out 0; have p1053 : 0 ≤ (x7_2 : Int) := of_decide_eq_true z51_2; have q1053 : x7_2 < (l0_0.length : Int) := of_decide_eq_true z51_2; obtain ⟨ad1053, A1053_0, c1053_0, e1053, hx1053_0, hl1053_0, hi1053_0⟩ := at_L7 HR0_0.out x7_2 p1053 q1053; cases e1053; replace hx1053_0 := (HB.out.cell (World.block_lt_of_cell? w _ hx1053_0)).trans hx1053_0; have HR1053_0 := am_ hi1053_0; have HC1053_0 := am_ hl1053_0; clear hi1053_0 hl1053_0; replace p1053 := eq_true p1053; replace q1053 := eq_true q1053) | ((with_reducible refine gate_builtin (b := .append) (xs := #[.tmp 33, .tmp 38]) rfl ?_); at_builtin; refine Kd.R_append_rows k85 (w0 := w) w.heap.size rfl (.tmp 33) (.tmp 38) 82 85 (.agg #[(.int .i64 0), (.int .i64 0), (.int .i64 0)]) 24 rfl Try.underlying82 info85 rfl (by decide) (by omega) v1051 y1050 (rd_L7 l0_0 x7_2) _ _ _ (fun _ => True) (fun _ => False) rfl rfl ?aO ?aR (fun _ _ h => h) (fun _ h => h.elim) ?aF ?aB ?aS ?aL ?_; (case aR => repeat (first | exact (Kd.C_below HR1053_0.out HB.out) | (with_reducible refine Kd.C_alloc ?_ _) | (with_reducible refine Kd.C_drewN ?_ _) | (with_reducible refine Kd.C_drew ?_))); (case aB => exact z51_8); (case aF => exact (fun _ _ => trivial)); (case aO => exact (ru HO1052.out)); (case aS => exact (below_size z51_8)); (case aL => have := LMc29.out; omega); intro v1055 w36 ho hb hg hat; rw [← Ny1054.out] at ho; have n0_ := am_ (Kd.S_after (ok := (fun _ => True)) (su HO_1050000.out) hg hat); have n1_ := am_ (blk_grown (bu BK1044.out) hg (Kd.R_ne HO1052.out BK1044.out (by decide))); have n2_ := am_ (blk_grown (bu BK1045.out) hg (Kd.R_ne HO1052.out BK1045.out (by decide))); have n3_ := am_ (blk_grown (bu BK1049.out) hg (Kd.R_ne HO1052.out BK1049.out (by decide))); have n4_ := am_ (hb); have n5_ := am_ (ho); clear HO_1050000 BK1044 BK1045 BK1049 HB HO1052; have HO_1050000 := n0_; have BK1044 := n1_; have BK1045 := n2_; have BK1049 := n3_; have HB := n4_; have HO1056 := n5_; clear n0_ n1_ n2_ n3_ n4_ n5_; clear ho hb hg hat))
         go_loopg [9] k2 (fun kq v9 w' => ∃ (x8_3 : List (S85)) (x9_3 : Int), v9 = .int .i64 x9_3 ∧ Aside0 (spec_TurnVals.l1 kq l1 x7_2 x8_3 x9_3 l0_0 x1050000_2 = some (r1, r2)) ∧ Aside0 (kq ≤ k2) ∧ Aside0 (Kd.R k85 85 w' w.heap.size (fun _ => True) v1055 x8_3) ∧ Aside0 (Kd.S (Kd.slice 85 k85) 82 w' w.heap.size (fun k_ => some k_ ≠ (v1055 : Value).ownBlock) u1050000 x1050000_2) ∧ Aside0 (w'.heap[gb1044]? = some (.cells #[(.slice (some ad1053) l0_0.length c0_0)] 35 (0, 0))) ∧ Aside0 (w'.heap[gb1045]? = some (.cells #[(.slice none 0 0)] 35 (0, 0))) ∧ Aside0 (w'.heap[gb1049]? = some (.cells #[u1050000] 35 (0, 0))) ∧ Aside0 (Below w.heap.size w w'))
         case atStart => exact ⟨(y1054), (0), z51_1, H', ⟨Nat.le_refl _⟩, ⟨ru HO1056.out⟩, ⟨su (Kd.S_mono HO_1050000.out (fun _ hk => hk.2))⟩, ⟨bu BK1044.out⟩, ⟨bu BK1045.out⟩, ⟨bu BK1049.out⟩, ⟨z51_8⟩⟩
         case round =>
          clear H'
          obtain ⟨x8_3, x9_3, rfl, HA, HK3, HO_8, HO_1050000, BK1044, BK1045, BK1049, HB⟩ := hrel
          cases gk with
          | zero => exact absurd HA.out (by simp [spec_TurnVals.l1])
          | succ k3 =>
           have H := HA.out
           clear HA
           simp only [spec_TurnVals.l1] at H
           by_cases c37 : x9_3 < (x8_3.length : Int)
           ·rw [if_pos c37] at H
            have c37b0 : decide (x9_3 < (x8_3.length : Int)) = true := decide_eq_true c37
            clear c37
            by_cases c38 : 0 ≤ x9_3
            ·rw [if_pos c38] at H
             have c38b0 : decide (0 ≤ x9_3) = true := decide_eq_true c38
             clear c38
             by_cases c39 : 0 ≤ ((rd_T85 x8_3 x9_3).f2)
             ·rw [if_pos c39] at H
              have c39b0 : decide (0 ≤ ((rd_T85 x8_3 x9_3).f2)) = true := decide_eq_true c39
              clear c39
              by_cases c40 : ((rd_T85 x8_3 x9_3).f2) < (l1.length : Int)
              ·rw [if_pos c40] at H
               have c40b0 : decide (((rd_T85 x8_3 x9_3).f2) < (l1.length : Int)) = true := decide_eq_true c40
               clear c40
               obtain ⟨y1059, hy1059⟩ : ∃ y_ : List (S85), y_ = (x8_3.set (x9_3 : Int).toNat (⟨(rd_T85 x8_3 x9_3).f0, (rd_T85 x8_3 x9_3).f1, rd l1 ((rd_T85 x8_3 x9_3).f2)⟩ : S85)) := ⟨_, rfl⟩
               replace H : (spec_TurnVals.l1 k3 l1 x7_2 y1059 (wrap64 (x9_3 + 1)) l0_0 x1050000_2) = some (r1, r2) := by first | (rw [hy1059]; with_reducible exact H) | (have H2_ := (Option.bind_some _ _).symm.trans H; rw [hy1059]; with_reducible exact H2_) | (have H2_ := (Option.bind_some _ _).symm.trans H; with_reducible exact H2_) | with_reducible exact H | (rw [hy1059]; exact H) | exact H
               have Ny1059 := am_ hy1059
               clear hy1059
               have H' := am_ H
               clear H
               obtain ⟨Ao42, co42, eo42⟩ := Kd.R_slice HO_8.out
               subst eo42
               have p1057 : 0 ≤ (x9_3 : Int) := of_decide_eq_true z51_2
               have q1057 : x9_3 < (x8_3.length : Int) := of_decide_eq_true z51_2
               obtain ⟨ad1057, e1057, hx1057_0, hx1057_1, hx1057_2⟩ := at_T85 (Kd.R_reads' HO_8.out).2.2 x9_3 p1057 q1057
               cases e1057
               replace p1057 := eq_true p1057
               replace q1057 := eq_true q1057
               have p1058 : 0 ≤ (((rd_T85 x8_3 x9_3).f2) : Int) := of_decide_eq_true z51_2
               have q1058 : ((rd_T85 x8_3 x9_3).f2) < (l1.length : Int) := of_decide_eq_true z51_2
               obtain ⟨ad1058, e1058, hx1058_0⟩ := Kd.at_int HR1.out ((rd_T85 x8_3 x9_3).f2) p1058 q1058
               cases e1058
               replace hx1058_0 := (HB.out.cell (World.block_lt_of_cell? w _ hx1058_0)).trans hx1058_0
               replace p1058 := eq_true p1058
               replace q1058 := eq_true q1058
               have p41 : 0 ≤ (x9_3 : Int) := of_decide_eq_true z51_2
               have q41 : (x9_3 : Int) < ((x8_3.length : Int) : Int) := of_decide_eq_true z51_2
               obtain ⟨go41, co41, eo41, gb41, gl41, cl41, HG41⟩ := Kd.R_form HO_8.out (by omega)
               (first | cases eo41 | (injection eo41 with ea_ en_ ec_; (first | subst ea_ | (injection ea_ with ea_; subst ea_)); subst ec_; clear en_))
               have GB41 := am_ gb41
               have GG41 := am_ HG41
               clear gb41 gl41 HG41
               (first | simp only [add_plain] at hx1057_0 | skip)
               (first | simp only [add_plain] at hx1057_1 | skip)
               (first | simp only [add_plain] at hx1057_2 | skip)
               obtain ⟨ce41, hcl41, hM41, hcc41, hfr41⟩ := Kd.R_elem HO_8.out z85 (x9_3 : Int) p41 q41
               obtain rfl := k85_openM hM41
               have hx41_0 : wr.cell? ⟨go41, (x9_3 : Int).toNat * 3, none⟩ = some (.int .i64 ((rd_T85 x8_3 x9_3).f0)) := hcc41 0 _ rfl
               have hx41_1 : wr.cell? ⟨go41, (x9_3 : Int).toNat * 3 + 1, none⟩ = some (.int .i64 ((rd_T85 x8_3 x9_3).f1)) := hcc41 1 _ rfl
               have hx41_2 : wr.cell? ⟨go41, (x9_3 : Int).toNat * 3 + 2, none⟩ = some (.int .i64 ((rd_T85 x8_3 x9_3).f2)) := hcc41 2 _ rfl
               have hf41_0 : wr.frozen? ⟨go41, (x9_3 : Int).toNat * 3, none⟩ = false := hfr41 0
               have hf41_1 : wr.frozen? ⟨go41, (x9_3 : Int).toNat * 3 + 1, none⟩ = false := hfr41 1
               have hf41_2 : wr.frozen? ⟨go41, (x9_3 : Int).toNat * 3 + 2, none⟩ = false := hfr41 2
               clear hcl41 hcc41 hfr41 hM41
               replace p41 := eq_true p41
               replace q41 := eq_true q41
               have HX43 := am_ (show Kd.R k85 85 wr w.heap.size (fun _ => True) (.slice (some ⟨go41, 0, none⟩) x8_3.length co42) x8_3 from (ru HO_8.out))
               obtain ⟨ce43, hcl43, hM43, hcc43, hfr43⟩ := Kd.R_elem HX43.out z85 (x9_3 : Int) (of_decide_eq_true z51_2) (by have h_ : (x9_3 : Int) < ((x8_3.length : Int) : Int) := of_decide_eq_true z51_2; first | exact h_ | (have e_ := (Kd.R_reads' HO_8.out).1; omega) | simpa using h_)
               obtain rfl := k85_openM hM43
               have HP43 := Kd.R_seg HX43.out (x9_3 : Int) (of_decide_eq_true z51_2) (by have h_ : (x9_3 : Int) < ((x8_3.length : Int) : Int) := of_decide_eq_true z51_2; first | exact h_ | (have e_ := (Kd.R_reads' HO_8.out).1; omega) | simpa using h_) (seg := [.int .i64 (rd l1 ((rd_T85 x8_3 x9_3).f2))]) (j := 2) hcl43 hcc43 (show 3 ≤ 3 from by decide) (x' := (⟨(rd_T85 x8_3 x9_3).f0, (rd_T85 x8_3 x9_3).f1, rd l1 ((rd_T85 x8_3 x9_3).f2)⟩ : S85)) (k85_mkM _ _ _ (⟨(rd_T85 x8_3 x9_3).f0, (rd_T85 x8_3 x9_3).f1, rd l1 ((rd_T85 x8_3 x9_3).f2)⟩ : S85) ) (fun _ hk => hk)
               have hx43_2 := hcc43 2 _ rfl
               (try simp only [show (k85).sz = 3 from rfl, Nat.mul_one, Nat.add_zero] at hx43_2)
               have hf43_2 := hfr43 2
               (try simp only [show (k85).sz = 3 from rfl, Nat.mul_one, Nat.add_zero] at hf43_2)
               clear hcl43 hcc43 hfr43 hM43
               go_wp2_with (first | ((with_reducible refine gate_store (t := 3) (p := 57) rfl ?_); refine store_event (t := 3) (p := 57) (v := ?vo_w44) (w1 := (wr.setCell ⟨go41, (x9_3 : Int).toNat * 3 + 2, none⟩ (.int .i64 (rd l1 ((rd_T85 x8_3 x9_3).f2))))) ?hg ?ho ?hn ?hr ?_; (case ho => rfl); (case hg => rfl); (case hn => rfl); (case hr => first | (go_simp; done) | (go_simp; rfl)); intro w44 hw; have hg : wr.grownBy w44 (some go41) := (by rw [hw]; exact HP43.2); have hp_ : Kd.R k85 85 w44 w.heap.size (fun _ => True) (.slice (some ⟨go41, 0, none⟩) x8_3.length co42) y1059 := (by rw [hw, Ny1059.out]; exact HP43.1); clear HP43; have n0_ := am_ (hp_); have n1_ := am_ (Kd.S_after (v := (.slice (some ⟨go41, 0, none⟩) x8_3.length co42)) (v1 := (.slice (some ⟨go41, 0, none⟩) x8_3.length co42)) (ok := (fun _ => True)) (su (Kd.S_mono HO_1050000.out (fun _ hk => ⟨trivial, hk⟩))) hg (.inl rfl)); have n2_ := am_ (blk_grown (bu BK1044.out) hg (Kd.R_ne HO_8.out BK1044.out (by decide))); have n3_ := am_ (blk_grown (bu BK1045.out) hg (Kd.R_ne HO_8.out BK1045.out (by decide))); have n4_ := am_ (blk_grown (bu BK1049.out) hg (Kd.R_ne HO_8.out BK1049.out (by decide))); have n5_ := am_ (by rw [hw]; exact below_set (HB.out) GB41.out : Below w.heap.size w w44); clear HO_8 HO_1050000 BK1044 BK1045 BK1049 HB; have HO_8 := n0_; have HO_1050000 := n1_; have BK1044 := n2_; have BK1045 := n3_; have BK1049 := n4_; have HB := n5_; clear n0_ n1_ n2_ n3_ n4_ n5_; clear hg hw hp_))
               go_roundg k3
               case measure => have := HJ2.out; have := HK2.out; have := HK3.out; omega
               case rel => exact ⟨(y1059), (wrap64 (x9_3 + 1)), z51_1, H', ⟨by have := HJ2.out; have := HK2.out; have := HK3.out; omega⟩, ⟨ru HO_8.out⟩, ⟨su (Kd.S_mono HO_1050000.out (fun _ hk => hk.2))⟩, ⟨bu BK1044.out⟩, ⟨bu BK1045.out⟩, ⟨bu BK1049.out⟩, ⟨z51_8⟩⟩
              ·rw [if_neg c40] at H
               exact absurd H (by simp)
             ·rw [if_neg c39] at H
              exact absurd H (by simp)
            ·rw [if_neg c38] at H
             exact absurd H (by simp)
           ·rw [if_neg c37] at H
            have c37b0 : decide (x9_3 < (x8_3.length : Int)) = false := decide_eq_false c37
            clear c37
            by_cases c45 : x1050000_2.length < 5864062014805
            ·rw [if_pos c45] at H
             have LMc45 := am_ c45
             clear c45
             obtain ⟨y1060, hy1060⟩ : ∃ y_ : List (List (S85)), y_ = (x1050000_2 ++ [x8_3]) := ⟨_, rfl⟩
             replace H : (spec_TurnVals.l0 k3 l1 (wrap64 (x7_2 + 1)) l0_0 y1060) = some (r1, r2) := by first | (rw [hy1060]; with_reducible exact H) | (have H2_ := (Option.bind_some _ _).symm.trans H; rw [hy1060]; with_reducible exact H2_) | (have H2_ := (Option.bind_some _ _).symm.trans H; with_reducible exact H2_) | with_reducible exact H | (rw [hy1060]; exact H) | exact H
             have Ny1060 := am_ hy1060
             clear hy1060
             have H' := am_ H
             clear H
             obtain ⟨Ao46, co46, eo46⟩ := Kd.R_slice HO_8.out
             subst eo46
             have hnb47 := NB1049_1044.out
             have hnc47 := NB1044_1049.out
             have hnb48 := NB1049_1045.out
             have hnc48 := NB1045_1049.out
             have hcz49_0 : wr.cell? ⟨gb1049, 0, none⟩ = some (u1050000) := (blk_cell BK1049.out 0).trans rfl
             have hfz49_0 := blk_frozen BK1049.out 0
             go_wp2_with (first | ((with_reducible refine gate_builtin (b := .append) (xs := #[.tmp 59, .tmp 61]) rfl ?_); at_builtin; refine Kd.S_append (Kd.slice 85 k85) (w0 := w) w.heap.size rfl (.tmp 59) (.tmp 61) 33 82 (.slice none 0 0) 24 rfl Try.underlying33 info82 rfl (by decide) (by omega) u1050000 x1050000_2 x8_3 [.slice Ao46 x8_3.length co46] (fun _ => True) (fun k_ => some k_ = (.slice Ao46 x8_3.length co46 : Value).ownBlock) rfl rfl ?aP (fun k_ hk_ => ((Kd.R_mono (ok' := fun k_ => ((fun _ => True)) k_ ∧ some k_ ≠ (u1050000 : Value).ownBlock) (Kd.R_apart' (HO_8.out) (Kd.S_typed HO_1050000.out) (by decide)) (fun k_ hk => ⟨trivial, hk.2⟩))).1 k_ hk_.symm) ?aF ?aO ?aB ?aS ?aL ?_; (case aP => exact Kd.M_row (Kd.R_mono (Kd.R_tight rfl (Kd.R_mono (ok' := fun k_ => ((fun _ => True)) k_ ∧ some k_ ≠ (u1050000 : Value).ownBlock) (Kd.R_apart' (HO_8.out) (Kd.S_typed HO_1050000.out) (by decide)) (fun k_ hk => ⟨trivial, hk.2⟩))) (fun _ h_ => h_))); (case aB => exact z51_8); (case aF => exact (fun _ _ => trivial)); (case aO => exact (su (Kd.S_mono HO_1050000.out (fun k_ hk => ⟨trivial, fun e_ => hk e_⟩)))); (case aS => exact (below_size z51_8)); (case aL => have := LMc45.out; omega); intro v1061 w50 ho hb hg hat; rw [← Ny1060.out] at ho; have n0_ := am_ (blk_grown (bu BK1044.out) hg (Kd.S_ne HO_1050000.out BK1044.out (by decide))); have n1_ := am_ (blk_grown (bu BK1045.out) hg (Kd.S_ne HO_1050000.out BK1045.out (by decide))); have n2_ := am_ (blk_grown (bu BK1049.out) hg (Kd.S_ne HO_1050000.out BK1049.out (by decide))); have n3_ := am_ (hb); have n4_ := am_ (ho); clear BK1044 BK1045 BK1049 HB HO_1050000 HO_8; have BK1044 := n0_; have BK1045 := n1_; have BK1049 := n2_; have HB := n3_; have HO1062 := n4_; clear n0_ n1_ n2_ n3_ n4_; clear ho hb hg hat; obtain ⟨Ao51, co51, eo51⟩ := Kd.S_slice HO1062.out; subst eo51; have hcz52_0 : w50.cell? ⟨gb1049, 0, none⟩ = some (u1050000) := (blk_cell BK1049.out 0).trans rfl; have hfz52_0 := blk_frozen BK1049.out 0))
             go_roundg k3
             case measure => have := HJ2.out; have := HK2.out; have := HK3.out; omega
             case rel => exact ⟨(wrap64 (x7_2 + 1)), (y1060), (.slice Ao51 y1060.length co51), z51_1, H', ⟨by have := HJ2.out; have := HK2.out; have := HK3.out; omega⟩, ⟨su (Kd.S_mono (Kd.S_far (p := ⟨gb1049, 0, none⟩) (Kd.S_types HO1062.out BK1049.out (by decide)) (fun _ hk => hk.2) (.slice Ao51 y1060.length co51)) (fun _ hk => trivial))⟩, ⟨z51_9⟩, ⟨z51_10⟩, ⟨by (with_reducible repeat (first | refine blk_drewN ?_ _ | refine blk_drew ?_ | refine blk_alloc ?_ _)); refine blk_put (cs := #[u1050000]) ?_ 0 _ rfl; (with_reducible repeat (first | refine blk_drewN ?_ _ | refine blk_drew ?_ | refine blk_alloc ?_ _)); exact BK1049.out⟩, ⟨z51_8⟩⟩
            ·rw [if_neg c45] at H
             exact absurd H (by simp)
        ·rw [if_neg c29] at H
         exact absurd H (by simp)
       ·rw [if_neg c28] at H
        exact absurd H (by simp)
      ·rw [if_neg c27] at H
       have c27b0 : decide (x7_2 < (l0_0.length : Int)) = false := decide_eq_false c27
       clear c27
       simp only [Option.some.injEq, Prod.mk.injEq] at H
       obtain ⟨rfl, rfl⟩ := H
       have hnb53 := NB1044_1045.out
       have hnc53 := NB1045_1044.out
       have hnb54 := NB1044_1049.out
       have hnc54 := NB1049_1044.out
       have hcz55_0 : wr.cell? ⟨gb1044, 0, none⟩ = some (.slice A0_0 l0_0.length c0_0) := (blk_cell BK1044.out 0).trans rfl
       have hfz55_0 := blk_frozen BK1044.out 0
       have hnb56 := NB1049_1045.out
       have hnc56 := NB1045_1049.out
       have hcz57_0 : wr.cell? ⟨gb1049, 0, none⟩ = some (u1050000) := (blk_cell BK1049.out 0).trans rfl
       have hfz57_0 := blk_frozen BK1049.out 0
       obtain ⟨Ao58, co58, eo58⟩ := Kd.S_slice HO_1050000.out
       subst eo58
       have hcz59_0 : wr.cell? ⟨gb1045, 0, none⟩ = some (.slice none 0 0) := (blk_cell BK1045.out 0).trans rfl
       have hfz59_0 := blk_frozen BK1045.out 0
       go_wp2
       refine bodyPost_ret (results_ct rfl _ _ gb1045 35 #[.slice Ao58 x1050000_2.length co58] (0, 0) _ rfl z51_11 Try.underlying35 rfl (by kernel_rfl)) rfl ?_
       exact ⟨_, z51_3, su (Kd.S_mono (Kd.S_far (p := ⟨gb1045, 0, none⟩) (Kd.S_types HO_1050000.out BK1045.out (by decide)) (fun _ hk => hk.2) (.slice Ao58 x1050000_2.length co58)) (fun _ hk => trivial)), z51_8⟩

end Go.Proofs.Ytefkbmhkhpekjaa.PB

namespace Go.Proofs.Ytefkbmhkhpekjaa.PB
open Go.RowKit Go.Proofs.YtefkbmhkhpekjaaW.PrintWords Go.Proofs.YtefkbmhkhpekjaaW.PrintLast Go.Proofs.YtefkbmhkhpekjaaW.PrintMore
attribute [local go_sem] max2_int min2_int max_two min_two max_three min_three max_four min_four   -- for this text's walks alone
open Go.Proofs.YtefkbmhkhpekjaaMine
set_option linter.unusedVariables false
set_option linter.unusedSimpArgs false

theorem z114_1 {p : Prop} (h : p := by first | rfl | (simp [errW_none, errW_some] <;> rfl) | (simp [*, errW_none, errW_some] <;> rfl)) : p := h
theorem z114_2 {p : Prop} (h : p := by repeat (first | (with_reducible first | exact HB.out | apply below_alloc | apply pw_below_drewN | apply below_drew1) | exact HB.out)) : p := h
theorem z114_3 {p : Prop} (h : p := by repeat (first | (with_reducible first | exact HB.out | apply below_alloc | apply pw_below_drewN | apply below_drew1 | refine below_set ?_ GE354.out) | exact HB.out)) : p := h
/-! ### impl_Do_reads: function 114 -/
def impl_Do_reads.f (a0_0 : Int) (a0_1 : Int) (a0_2 : Int) : Option (Bool) := if a0_0 = 2 then (some true) else (some (a0_0 == 5))
set_option maxHeartbeats 8000000 in
set_option maxRecDepth 100000 in
theorem impl_Do_reads.calls (a0_0 : Int) (a0_1 : Int) (a0_2 : Int) (r : Bool) (w : World) (h : impl_Do_reads.f a0_0 a0_1 a0_2 = some r) :
  Calls Try.prog 114 #[.agg #[.int .i64 a0_0, .int .i64 a0_1, .int .i64 a0_2]] w fun e w' => e = .returned (.bool r) ∧ Below w.heap.size w w' := by
 have hu85 := Try.underlying85
 have HB := am_ (Below.refl w.heap.size w)
 have H : (if a0_0 = 2 then (some true) else (some (a0_0 == 5))) = some r := h
 clear h
 by_cases c2 : a0_0 = 2
 ·rw [if_pos c2] at H
  have c2b0 : (a0_0 == 2) = true := beq_iff_eq.mpr c2
  have c2b1 : (a0_0 != 2) = false := bne_eq_false_iff_eq.mpr c2
  clear c2
  obtain rfl := Option.some.inj H
  go_enter Try.func114, Try.ntmps114
  go_wp2_with (first | ((with_reducible refine gate_dst (N := 1) rfl ?_); refine box_event ?hg (N := 1) ?hd (cs := #[.int .i64 a0_0, .int .i64 a0_1, .int .i64 a0_2]) (t := 85) ?hr ?_; (case hd => rfl); (case hg => rfl); (case hr => first | (go_simp; done) | (go_simp; rfl)); intro gb354 hg w3 hbox hb; have n0_ := am_ (below_step z114_2 hb); have n1_ := am_ (hbox); have n2_ := am_ (by rw [hg]; exact (below_size z114_2) : w.heap.size ≤ gb354); have n3_ := am_ (by rw [hg]; exact (below_size z114_2) : w.heap.size ≤ gb354); clear HB; have HB := n0_; have BK354 := n1_; have GW354 := n2_; have GE354 := n3_; clear n0_ n1_ n2_ n3_; clear hb hbox hg; have hcz4_0 : w3.cell? ⟨gb354, 0, none⟩ = some (.int .i64 a0_0) := (blk_cell BK354.out 0).trans rfl; have hcz4_1 : w3.cell? ⟨gb354, 1, none⟩ = some (.int .i64 a0_1) := (blk_cell BK354.out 1).trans rfl; have hcz4_2 : w3.cell? ⟨gb354, 2, none⟩ = some (.int .i64 a0_2) := (blk_cell BK354.out 2).trans rfl; have hfz4_0 := blk_frozen BK354.out 0; have hfz4_1 := blk_frozen BK354.out 1; have hfz4_2 := blk_frozen BK354.out 2))
  go_ret
  exact ⟨z114_1, z114_3⟩
 ·rw [if_neg c2] at H
  have c2b0 : (a0_0 == 2) = false := beq_eq_false_iff_ne.mpr c2
  have c2b1 : (a0_0 != 2) = true := bne_iff_ne.mpr c2
  obtain rfl := Option.some.inj H
  go_enter Try.func114, Try.ntmps114
  go_wp2_with (first | ((with_reducible refine gate_dst (N := 1) rfl ?_); refine box_event ?hg (N := 1) ?hd (cs := #[.int .i64 a0_0, .int .i64 a0_1, .int .i64 a0_2]) (t := 85) ?hr ?_; (case hd => rfl); (case hg => rfl); (case hr => first | (go_simp; done) | (go_simp; rfl)); intro gb354 hg w5 hbox hb; have n0_ := am_ (below_step z114_2 hb); have n1_ := am_ (hbox); have n2_ := am_ (by rw [hg]; exact (below_size z114_2) : w.heap.size ≤ gb354); have n3_ := am_ (by rw [hg]; exact (below_size z114_2) : w.heap.size ≤ gb354); clear HB; have HB := n0_; have BK354 := n1_; have GW354 := n2_; have GE354 := n3_; clear n0_ n1_ n2_ n3_; clear hb hbox hg; have hcz6_0 : w5.cell? ⟨gb354, 0, none⟩ = some (.int .i64 a0_0) := (blk_cell BK354.out 0).trans rfl; have hcz6_1 : w5.cell? ⟨gb354, 1, none⟩ = some (.int .i64 a0_1) := (blk_cell BK354.out 1).trans rfl; have hcz6_2 : w5.cell? ⟨gb354, 2, none⟩ = some (.int .i64 a0_2) := (blk_cell BK354.out 2).trans rfl; have hfz6_0 := blk_frozen BK354.out 0; have hfz6_1 := blk_frozen BK354.out 1; have hfz6_2 := blk_frozen BK354.out 2))
  go_ret
  exact ⟨z114_1, z114_3⟩

end Go.Proofs.Ytefkbmhkhpekjaa.PB

namespace Go.Proofs.Ytefkbmhkhpekjaa.PB
open Go.RowKit Go.Proofs.YtefkbmhkhpekjaaW.PrintWords Go.Proofs.YtefkbmhkhpekjaaW.PrintLast Go.Proofs.YtefkbmhkhpekjaaW.PrintMore
attribute [local go_sem] max2_int min2_int max_two min_two max_three min_three max_four min_four   -- for this text's walks alone
open Go.Proofs.YtefkbmhkhpekjaaMine
set_option linter.unusedVariables false
set_option linter.unusedSimpArgs false

/-! ### impl_in: function 66 -/
def impl_in.f (a0 : Int) (a1 : Int) (a2 : Int) : Option (Bool) := if a0 ≥ a1 then (some (decide (a0 ≤ a2))) else (some false)
set_option maxHeartbeats 8000000 in
set_option maxRecDepth 100000 in
theorem impl_in.calls (a0 : Int) (a1 : Int) (a2 : Int) (r : Bool) (w : World) (h : impl_in.f a0 a1 a2 = some r) :
  Calls Try.prog 66 #[.int .i64 a0, .int .i64 a1, .int .i64 a2] w fun e w' => e = .returned (.bool r) ∧ Drawn0 w w' := by
 have H : (if a0 ≥ a1 then (some (decide (a0 ≤ a2))) else (some false)) = some r := h
 clear h
 by_cases c4 : a0 ≥ a1
 ·rw [if_pos c4] at H
  have c4b0 : decide (a1 ≤ a0) = true := decide_eq_true c4
  clear c4
  obtain rfl := Option.some.inj H
  go_enter Try.func66, Try.ntmps66
  go_wp2
  go_ret
  exact ⟨by first | rfl | (simp; done) | (simp [*]; done), by repeat (first | exact Drawn0.refl _ | apply Drawn0.step)⟩
 ·rw [if_neg c4] at H
  have c4b0 : decide (a1 ≤ a0) = false := decide_eq_false c4
  clear c4
  obtain rfl := Option.some.inj H
  go_enter Try.func66, Try.ntmps66
  go_wp2
  go_ret
  exact ⟨by first | rfl | (simp; done) | (simp [*]; done), by repeat (first | exact Drawn0.refl _ | apply Drawn0.step)⟩

end Go.Proofs.Ytefkbmhkhpekjaa.PB

namespace Go.Proofs.Ytefkbmhkhpekjaa.PB
open Go.RowKit Go.Proofs.YtefkbmhkhpekjaaW.PrintWords Go.Proofs.YtefkbmhkhpekjaaW.PrintLast Go.Proofs.YtefkbmhkhpekjaaW.PrintMore
attribute [local go_sem] max2_int min2_int max_two min_two max_three min_three max_four min_four   -- for this text's walks alone
open Go.Proofs.YtefkbmhkhpekjaaMine
set_option linter.unusedVariables false
set_option linter.unusedSimpArgs false

theorem z115_1 {p : Prop} (h : p := by first | rfl | (simp [errW_none, errW_some] <;> rfl) | (simp [*, errW_none, errW_some] <;> rfl)) : p := h
theorem z115_2 {p : Prop} (h : p := by repeat (first | (with_reducible first | exact HB.out | apply below_alloc | apply pw_below_drewN | apply below_drew1) | exact HB.out)) : p := h
theorem z115_3 {p : Prop} (h : p := by repeat (first | (with_reducible first | exact HB.out | apply below_alloc | apply pw_below_drewN | apply below_drew1 | refine below_set ?_ GE355.out) | exact HB.out)) : p := h
/-! ### impl_Do_writes: function 115 -/
def impl_Do_writes.f (a0_0 : Int) (a0_1 : Int) (a0_2 : Int) : Option (Bool) := if a0_0 = 1 then (some true) else (if a0_0 = 3 then (some true) else (some (a0_0 == 6)))
set_option maxHeartbeats 8000000 in
set_option maxRecDepth 100000 in
theorem impl_Do_writes.calls (a0_0 : Int) (a0_1 : Int) (a0_2 : Int) (r : Bool) (w : World) (h : impl_Do_writes.f a0_0 a0_1 a0_2 = some r) :
  Calls Try.prog 115 #[.agg #[.int .i64 a0_0, .int .i64 a0_1, .int .i64 a0_2]] w fun e w' => e = .returned (.bool r) ∧ Below w.heap.size w w' := by
 have hu85 := Try.underlying85
 have HB := am_ (Below.refl w.heap.size w)
 have H : (if a0_0 = 1 then (some true) else (if a0_0 = 3 then (some true) else (some (a0_0 == 6)))) = some r := h
 clear h
 by_cases c2 : a0_0 = 1
 ·rw [if_pos c2] at H
  have c2b0 : (a0_0 == 1) = true := beq_iff_eq.mpr c2
  have c2b1 : (a0_0 != 1) = false := bne_eq_false_iff_eq.mpr c2
  clear c2
  obtain rfl := Option.some.inj H
  go_enter Try.func115, Try.ntmps115
  go_wp2_with (first | ((with_reducible refine gate_dst (N := 1) rfl ?_); refine box_event ?hg (N := 1) ?hd (cs := #[.int .i64 a0_0, .int .i64 a0_1, .int .i64 a0_2]) (t := 85) ?hr ?_; (case hd => rfl); (case hg => rfl); (case hr => first | (go_simp; done) | (go_simp; rfl)); intro gb355 hg w3 hbox hb; have n0_ := am_ (below_step z115_2 hb); have n1_ := am_ (hbox); have n2_ := am_ (by rw [hg]; exact (below_size z115_2) : w.heap.size ≤ gb355); have n3_ := am_ (by rw [hg]; exact (below_size z115_2) : w.heap.size ≤ gb355); clear HB; have HB := n0_; have BK355 := n1_; have GW355 := n2_; have GE355 := n3_; clear n0_ n1_ n2_ n3_; clear hb hbox hg; have hcz4_0 : w3.cell? ⟨gb355, 0, none⟩ = some (.int .i64 a0_0) := (blk_cell BK355.out 0).trans rfl; have hcz4_1 : w3.cell? ⟨gb355, 1, none⟩ = some (.int .i64 a0_1) := (blk_cell BK355.out 1).trans rfl; have hcz4_2 : w3.cell? ⟨gb355, 2, none⟩ = some (.int .i64 a0_2) := (blk_cell BK355.out 2).trans rfl; have hfz4_0 := blk_frozen BK355.out 0; have hfz4_1 := blk_frozen BK355.out 1; have hfz4_2 := blk_frozen BK355.out 2))
  go_ret
  exact ⟨z115_1, z115_3⟩
 ·rw [if_neg c2] at H
  have c2b0 : (a0_0 == 1) = false := beq_eq_false_iff_ne.mpr c2
  have c2b1 : (a0_0 != 1) = true := bne_iff_ne.mpr c2
  by_cases c5 : a0_0 = 3
  ·rw [if_pos c5] at H
   have c5b0 : (a0_0 == 3) = true := beq_iff_eq.mpr c5
   have c5b1 : (a0_0 != 3) = false := bne_eq_false_iff_eq.mpr c5
   clear c5
   obtain rfl := Option.some.inj H
   go_enter Try.func115, Try.ntmps115
   go_wp2_with (first | ((with_reducible refine gate_dst (N := 1) rfl ?_); refine box_event ?hg (N := 1) ?hd (cs := #[.int .i64 a0_0, .int .i64 a0_1, .int .i64 a0_2]) (t := 85) ?hr ?_; (case hd => rfl); (case hg => rfl); (case hr => first | (go_simp; done) | (go_simp; rfl)); intro gb355 hg w6 hbox hb; have n0_ := am_ (below_step z115_2 hb); have n1_ := am_ (hbox); have n2_ := am_ (by rw [hg]; exact (below_size z115_2) : w.heap.size ≤ gb355); have n3_ := am_ (by rw [hg]; exact (below_size z115_2) : w.heap.size ≤ gb355); clear HB; have HB := n0_; have BK355 := n1_; have GW355 := n2_; have GE355 := n3_; clear n0_ n1_ n2_ n3_; clear hb hbox hg; have hcz7_0 : w6.cell? ⟨gb355, 0, none⟩ = some (.int .i64 a0_0) := (blk_cell BK355.out 0).trans rfl; have hcz7_1 : w6.cell? ⟨gb355, 1, none⟩ = some (.int .i64 a0_1) := (blk_cell BK355.out 1).trans rfl; have hcz7_2 : w6.cell? ⟨gb355, 2, none⟩ = some (.int .i64 a0_2) := (blk_cell BK355.out 2).trans rfl; have hfz7_0 := blk_frozen BK355.out 0; have hfz7_1 := blk_frozen BK355.out 1; have hfz7_2 := blk_frozen BK355.out 2))
   go_ret
   exact ⟨z115_1, z115_3⟩
  ·rw [if_neg c5] at H
   have c5b0 : (a0_0 == 3) = false := beq_eq_false_iff_ne.mpr c5
   have c5b1 : (a0_0 != 3) = true := bne_iff_ne.mpr c5
   obtain rfl := Option.some.inj H
   go_enter Try.func115, Try.ntmps115
   go_wp2_with (first | ((with_reducible refine gate_dst (N := 1) rfl ?_); refine box_event ?hg (N := 1) ?hd (cs := #[.int .i64 a0_0, .int .i64 a0_1, .int .i64 a0_2]) (t := 85) ?hr ?_; (case hd => rfl); (case hg => rfl); (case hr => first | (go_simp; done) | (go_simp; rfl)); intro gb355 hg w8 hbox hb; have n0_ := am_ (below_step z115_2 hb); have n1_ := am_ (hbox); have n2_ := am_ (by rw [hg]; exact (below_size z115_2) : w.heap.size ≤ gb355); have n3_ := am_ (by rw [hg]; exact (below_size z115_2) : w.heap.size ≤ gb355); clear HB; have HB := n0_; have BK355 := n1_; have GW355 := n2_; have GE355 := n3_; clear n0_ n1_ n2_ n3_; clear hb hbox hg; have hcz9_0 : w8.cell? ⟨gb355, 0, none⟩ = some (.int .i64 a0_0) := (blk_cell BK355.out 0).trans rfl; have hcz9_1 : w8.cell? ⟨gb355, 1, none⟩ = some (.int .i64 a0_1) := (blk_cell BK355.out 1).trans rfl; have hcz9_2 : w8.cell? ⟨gb355, 2, none⟩ = some (.int .i64 a0_2) := (blk_cell BK355.out 2).trans rfl; have hfz9_0 := blk_frozen BK355.out 0; have hfz9_1 := blk_frozen BK355.out 1; have hfz9_2 := blk_frozen BK355.out 2))
   go_ret
   exact ⟨z115_1, z115_3⟩

end Go.Proofs.Ytefkbmhkhpekjaa.PB

namespace Go.Proofs.Ytefkbmhkhpekjaa.PB
open Go.RowKit Go.Proofs.YtefkbmhkhpekjaaW.PrintWords Go.Proofs.YtefkbmhkhpekjaaW.PrintLast Go.Proofs.YtefkbmhkhpekjaaW.PrintMore
attribute [local go_sem] max2_int min2_int max_two min_two max_three min_three max_four min_four   -- for this text's walks alone
open Go.Proofs.YtefkbmhkhpekjaaMine
set_option linter.unusedVariables false
set_option linter.unusedSimpArgs false

theorem z78_1 {p : Prop} (h : p := by first | rfl | (simp [errW_none, errW_some] <;> rfl) | (simp [*, errW_none, errW_some] <;> rfl)) : p := h
theorem z78_2 {p : Prop} (h : p := by repeat (first | (with_reducible first | exact HB.out | apply below_alloc | apply pw_below_drewN | apply below_drew1) | exact HB.out)) : p := h
theorem z78_3 {p : Prop} (h : p := by repeat (first | (with_reducible first | exact HB.out | apply below_alloc | apply pw_below_drewN | apply below_drew1 | refine below_set ?_ GE356.out) | exact HB.out)) : p := h
/-! ### impl_Do_uses: function 78 -/
def impl_Do_uses.f (a0_0 : Int) (a0_1 : Int) (a0_2 : Int) : Option (Bool) := (impl_Do_reads.f a0_0 a0_1 a0_2).bind fun t357 => (if t357 = true then (some true) else ((impl_Do_writes.f a0_0 a0_1 a0_2).bind fun t358 => (some t358)))
set_option maxHeartbeats 8000000 in
set_option maxRecDepth 100000 in
theorem impl_Do_uses.calls (a0_0 : Int) (a0_1 : Int) (a0_2 : Int) (r : Bool) (w : World) (h : impl_Do_uses.f a0_0 a0_1 a0_2 = some r) :
  Calls Try.prog 78 #[.agg #[.int .i64 a0_0, .int .i64 a0_1, .int .i64 a0_2]] w fun e w' => e = .returned (.bool r) ∧ Below w.heap.size w w' := by
 have hu85 := Try.underlying85
 have HB := am_ (Below.refl w.heap.size w)
 have H : ((impl_Do_reads.f a0_0 a0_1 a0_2).bind fun t357 => (if t357 = true then (some true) else ((impl_Do_writes.f a0_0 a0_1 a0_2).bind fun t358 => (some t358)))) = some r := h
 clear h
 replace H := Option.bind_eq_some_iff.mp H
 obtain ⟨t357, A20, H⟩ := H
 replace H : (if t357 = true then (some true) else ((impl_Do_writes.f a0_0 a0_1 a0_2).bind fun t358 => (some t358))) = some r := H
 have A2 := am_ A20
 clear A20
 by_cases c3 : t357 = true
 ·subst c3
  have H1 : (some true) = some r := by rw [if_pos rfl] at H; exact H
  clear H
  have H := H1
  clear H1
  obtain rfl := Option.some.inj H
  go_enter Try.func78, Try.ntmps78
  go_wp2_with (first | ((with_reducible refine gate_dst (N := 1) rfl ?_); refine box_event ?hg (N := 1) ?hd (cs := #[.int .i64 a0_0, .int .i64 a0_1, .int .i64 a0_2]) (t := 85) ?hr ?_; (case hd => rfl); (case hg => rfl); (case hr => first | (go_simp; done) | (go_simp; rfl)); intro gb356 hg w4 hbox hb; have n0_ := am_ (below_step z78_2 hb); have n1_ := am_ (hbox); have n2_ := am_ (by rw [hg]; exact (below_size z78_2) : w.heap.size ≤ gb356); have n3_ := am_ (by rw [hg]; exact (below_size z78_2) : w.heap.size ≤ gb356); clear HB; have HB := n0_; have BK356 := n1_; have GW356 := n2_; have GE356 := n3_; clear n0_ n1_ n2_ n3_; clear hb hbox hg; have hcz5_0 : w4.cell? ⟨gb356, 0, none⟩ = some (.int .i64 a0_0) := (blk_cell BK356.out 0).trans rfl; have hcz5_1 : w4.cell? ⟨gb356, 1, none⟩ = some (.int .i64 a0_1) := (blk_cell BK356.out 1).trans rfl; have hcz5_2 : w4.cell? ⟨gb356, 2, none⟩ = some (.int .i64 a0_2) := (blk_cell BK356.out 2).trans rfl; have hfz5_0 := blk_frozen BK356.out 0; have hfz5_1 := blk_frozen BK356.out 1; have hfz5_2 := blk_frozen BK356.out 2) | ((with_reducible refine gate_callee (f := 114) rfl ?_); refine goesL_ (some 4) rfl rfl Try.func114 (by kernel_rfl) rfl #[.agg #[.int .i64 a0_0, .int .i64 a0_1, .int .i64 a0_2]] rfl (by (try simp only [List.map_toArray, List.map_cons, List.map_nil]); first | done | rfl | (simp only [List.length_drop, List.length_take]; rfl)) ?_; (with_reducible refine (impl_Do_reads.calls a0_0 a0_1 a0_2 true _ A2.out).mono ?_); rintro e w6 ⟨rfl, hb⟩; refine ⟨_, rfl, ?_⟩; have n0_ := am_ (blk_below (bu BK356.out) hb); have n1_ := am_ (below_step z78_3 hb); clear BK356 HB; have BK356 := n0_; have HB := n1_; clear n0_ n1_; (try clear hb); (try clear hb2); (try clear hk); (try clear hi)))
  go_ret
  exact ⟨z78_1, z78_3⟩
 ·replace c3 := Bool.eq_false_iff.mpr c3
  subst c3
  have H1 : ((impl_Do_writes.f a0_0 a0_1 a0_2).bind fun t358 => (some t358)) = some r := by rw [if_neg (show ¬ (false = true) by decide)] at H; exact H
  clear H
  have H := H1
  clear H1
  replace H := Option.bind_eq_some_iff.mp H
  obtain ⟨t358, A70, H⟩ := H
  replace H : (some t358) = some r := H
  have A7 := am_ A70
  clear A70
  obtain rfl := Option.some.inj H
  go_enter Try.func78, Try.ntmps78
  go_wp2_with (first | ((with_reducible refine gate_dst (N := 1) rfl ?_); refine box_event ?hg (N := 1) ?hd (cs := #[.int .i64 a0_0, .int .i64 a0_1, .int .i64 a0_2]) (t := 85) ?hr ?_; (case hd => rfl); (case hg => rfl); (case hr => first | (go_simp; done) | (go_simp; rfl)); intro gb356 hg w8 hbox hb; have n0_ := am_ (below_step z78_2 hb); have n1_ := am_ (hbox); have n2_ := am_ (by rw [hg]; exact (below_size z78_2) : w.heap.size ≤ gb356); have n3_ := am_ (by rw [hg]; exact (below_size z78_2) : w.heap.size ≤ gb356); clear HB; have HB := n0_; have BK356 := n1_; have GW356 := n2_; have GE356 := n3_; clear n0_ n1_ n2_ n3_; clear hb hbox hg; have hcz9_0 : w8.cell? ⟨gb356, 0, none⟩ = some (.int .i64 a0_0) := (blk_cell BK356.out 0).trans rfl; have hcz9_1 : w8.cell? ⟨gb356, 1, none⟩ = some (.int .i64 a0_1) := (blk_cell BK356.out 1).trans rfl; have hcz9_2 : w8.cell? ⟨gb356, 2, none⟩ = some (.int .i64 a0_2) := (blk_cell BK356.out 2).trans rfl; have hfz9_0 := blk_frozen BK356.out 0; have hfz9_1 := blk_frozen BK356.out 1; have hfz9_2 := blk_frozen BK356.out 2) | ((with_reducible refine gate_callee (f := 114) rfl ?_); refine goesL_ (some 4) rfl rfl Try.func114 (by kernel_rfl) rfl #[.agg #[.int .i64 a0_0, .int .i64 a0_1, .int .i64 a0_2]] rfl (by (try simp only [List.map_toArray, List.map_cons, List.map_nil]); first | done | rfl | (simp only [List.length_drop, List.length_take]; rfl)) ?_; (with_reducible refine (impl_Do_reads.calls a0_0 a0_1 a0_2 false _ A2.out).mono ?_); rintro e w10 ⟨rfl, hb⟩; refine ⟨_, rfl, ?_⟩; have n0_ := am_ (blk_below (bu BK356.out) hb); have n1_ := am_ (below_step z78_3 hb); clear BK356 HB; have BK356 := n0_; have HB := n1_; clear n0_ n1_; (try clear hb); (try clear hb2); (try clear hk); (try clear hi); have hcz11_0 : w10.cell? ⟨gb356, 0, none⟩ = some (.int .i64 a0_0) := (blk_cell BK356.out 0).trans rfl; have hcz11_1 : w10.cell? ⟨gb356, 1, none⟩ = some (.int .i64 a0_1) := (blk_cell BK356.out 1).trans rfl; have hcz11_2 : w10.cell? ⟨gb356, 2, none⟩ = some (.int .i64 a0_2) := (blk_cell BK356.out 2).trans rfl; have hfz11_0 := blk_frozen BK356.out 0; have hfz11_1 := blk_frozen BK356.out 1; have hfz11_2 := blk_frozen BK356.out 2) | (go_at_call 115; (with_reducible refine (impl_Do_writes.calls a0_0 a0_1 a0_2 t358 _ A7.out).mono ?_); rintro e w12 ⟨rfl, hb⟩; have n0_ := am_ (blk_below (bu BK356.out) hb); have n1_ := am_ (below_step z78_3 hb); clear BK356 HB; have BK356 := n0_; have HB := n1_; clear n0_ n1_; (try clear hb); (try clear hb2); (try clear hk); (try clear hi)))
  go_ret
  exact ⟨z78_1, z78_3⟩

end Go.Proofs.Ytefkbmhkhpekjaa.PB

namespace Go.Proofs.Ytefkbmhkhpekjaa.PB
open Go.RowKit Go.Proofs.YtefkbmhkhpekjaaW.PrintWords Go.Proofs.YtefkbmhkhpekjaaW.PrintLast Go.Proofs.YtefkbmhkhpekjaaW.PrintMore
attribute [local go_sem] max2_int min2_int max_two min_two max_three min_three max_four min_four   -- for this text's walks alone
open Go.Proofs.YtefkbmhkhpekjaaMine
set_option linter.unusedVariables false
set_option linter.unusedSimpArgs false

theorem z131_1 {p : Prop} (h : p := by first | rfl | (simp [errW_none, errW_some] <;> rfl) | (simp [*, errW_none, errW_some] <;> rfl)) : p := h
theorem z131_2 {p : Prop} (h : p := by repeat (first | (with_reducible first | exact HB.out | apply below_alloc | apply pw_below_drewN | apply below_drew1) | exact HB.out)) : p := h
theorem z131_3 {p : Prop} (h : p := by repeat (first | (with_reducible first | exact HB.out | apply below_alloc | apply pw_below_drewN | apply below_drew1 | refine below_set ?_ GE359.out) | exact HB.out)) : p := h
/-! ### impl_Do_valued: function 131 -/
def impl_Do_valued.f (a0_0 : Int) (a0_1 : Int) (a0_2 : Int) : Option (Bool) := if a0_0 = 1 then (some true) else (some (a0_0 == 6))
set_option maxHeartbeats 8000000 in
set_option maxRecDepth 100000 in
theorem impl_Do_valued.calls (a0_0 : Int) (a0_1 : Int) (a0_2 : Int) (r : Bool) (w : World) (h : impl_Do_valued.f a0_0 a0_1 a0_2 = some r) :
  Calls Try.prog 131 #[.agg #[.int .i64 a0_0, .int .i64 a0_1, .int .i64 a0_2]] w fun e w' => e = .returned (.bool r) ∧ Below w.heap.size w w' := by
 have hu85 := Try.underlying85
 have HB := am_ (Below.refl w.heap.size w)
 have H : (if a0_0 = 1 then (some true) else (some (a0_0 == 6))) = some r := h
 clear h
 by_cases c2 : a0_0 = 1
 ·rw [if_pos c2] at H
  have c2b0 : (a0_0 == 1) = true := beq_iff_eq.mpr c2
  have c2b1 : (a0_0 != 1) = false := bne_eq_false_iff_eq.mpr c2
  clear c2
  obtain rfl := Option.some.inj H
  go_enter Try.func131, Try.ntmps131
  go_wp2_with (first | ((with_reducible refine gate_dst (N := 1) rfl ?_); refine box_event ?hg (N := 1) ?hd (cs := #[.int .i64 a0_0, .int .i64 a0_1, .int .i64 a0_2]) (t := 85) ?hr ?_; (case hd => rfl); (case hg => rfl); (case hr => first | (go_simp; done) | (go_simp; rfl)); intro gb359 hg w3 hbox hb; have n0_ := am_ (below_step z131_2 hb); have n1_ := am_ (hbox); have n2_ := am_ (by rw [hg]; exact (below_size z131_2) : w.heap.size ≤ gb359); have n3_ := am_ (by rw [hg]; exact (below_size z131_2) : w.heap.size ≤ gb359); clear HB; have HB := n0_; have BK359 := n1_; have GW359 := n2_; have GE359 := n3_; clear n0_ n1_ n2_ n3_; clear hb hbox hg; have hcz4_0 : w3.cell? ⟨gb359, 0, none⟩ = some (.int .i64 a0_0) := (blk_cell BK359.out 0).trans rfl; have hcz4_1 : w3.cell? ⟨gb359, 1, none⟩ = some (.int .i64 a0_1) := (blk_cell BK359.out 1).trans rfl; have hcz4_2 : w3.cell? ⟨gb359, 2, none⟩ = some (.int .i64 a0_2) := (blk_cell BK359.out 2).trans rfl; have hfz4_0 := blk_frozen BK359.out 0; have hfz4_1 := blk_frozen BK359.out 1; have hfz4_2 := blk_frozen BK359.out 2))
  go_ret
  exact ⟨z131_1, z131_3⟩
 ·rw [if_neg c2] at H
  have c2b0 : (a0_0 == 1) = false := beq_eq_false_iff_ne.mpr c2
  have c2b1 : (a0_0 != 1) = true := bne_iff_ne.mpr c2
  obtain rfl := Option.some.inj H
  go_enter Try.func131, Try.ntmps131
  go_wp2_with (first | ((with_reducible refine gate_dst (N := 1) rfl ?_); refine box_event ?hg (N := 1) ?hd (cs := #[.int .i64 a0_0, .int .i64 a0_1, .int .i64 a0_2]) (t := 85) ?hr ?_; (case hd => rfl); (case hg => rfl); (case hr => first | (go_simp; done) | (go_simp; rfl)); intro gb359 hg w5 hbox hb; have n0_ := am_ (below_step z131_2 hb); have n1_ := am_ (hbox); have n2_ := am_ (by rw [hg]; exact (below_size z131_2) : w.heap.size ≤ gb359); have n3_ := am_ (by rw [hg]; exact (below_size z131_2) : w.heap.size ≤ gb359); clear HB; have HB := n0_; have BK359 := n1_; have GW359 := n2_; have GE359 := n3_; clear n0_ n1_ n2_ n3_; clear hb hbox hg; have hcz6_0 : w5.cell? ⟨gb359, 0, none⟩ = some (.int .i64 a0_0) := (blk_cell BK359.out 0).trans rfl; have hcz6_1 : w5.cell? ⟨gb359, 1, none⟩ = some (.int .i64 a0_1) := (blk_cell BK359.out 1).trans rfl; have hcz6_2 : w5.cell? ⟨gb359, 2, none⟩ = some (.int .i64 a0_2) := (blk_cell BK359.out 2).trans rfl; have hfz6_0 := blk_frozen BK359.out 0; have hfz6_1 := blk_frozen BK359.out 1; have hfz6_2 := blk_frozen BK359.out 2))
  go_ret
  exact ⟨z131_1, z131_3⟩

end Go.Proofs.Ytefkbmhkhpekjaa.PB

namespace Go.Proofs.Ytefkbmhkhpekjaa.PB
open Go.RowKit Go.Proofs.YtefkbmhkhpekjaaW.PrintWords Go.Proofs.YtefkbmhkhpekjaaW.PrintLast Go.Proofs.YtefkbmhkhpekjaaW.PrintMore
attribute [local go_sem] max2_int min2_int max_two min_two max_three min_three max_four min_four   -- for this text's walks alone
open Go.Proofs.YtefkbmhkhpekjaaMine
set_option linter.unusedVariables false
set_option linter.unusedSimpArgs false

theorem z116_1 {p : Prop} (h : p := by first | rfl | (simp; done) | (simp [*]; done)) : p := h
theorem z116_2 {p : Prop} (h : p := by first | rfl | (simp [errW_none, errW_some] <;> rfl) | (simp [*, errW_none, errW_some] <;> rfl)) : p := h
theorem z116_3 {p : Prop} (h : p := by repeat (first | (with_reducible first | exact HB.out | apply below_alloc | apply pw_below_drewN | apply below_drew1) | exact HB.out)) : p := h
theorem z116_4 {p : Prop} (h : p := by repeat (first | (with_reducible first | exact HB.out | apply below_alloc | apply pw_below_drewN | apply below_drew1 | refine below_set ?_ GE360.out) | exact HB.out)) : p := h
/-! ### impl_Do_formed: function 116 -/
def impl_Do_formed.j0 : Nat → Bool → Int → Int → Int → Option (Bool)
  | 0, _, _, _, _ => none
  | k + 1, x3, x361000, x361001, x361002 => (impl_Do_valued.f x361000 x361001 x361002).bind fun t363 => (if t363 = true then ((impl_in.f x361002 1 3).bind fun t364 => ((impl_in.f x361000 1 9).bind fun t365 => (if t365 = true then (if x3 = true then (some t364) else (some false)) else (some false)))) else ((impl_in.f x361000 1 9).bind fun t366 => (if t366 = true then (if x3 = true then (some (x361002 == 0)) else (some false)) else (some false))))
def impl_Do_formed.f (k : Nat) (a0_0 : Int) (a0_1 : Int) (a0_2 : Int) : Option (Bool) := if a0_1 = 0 then (impl_Do_formed.j0 k true a0_0 a0_1 a0_2) else ((impl_Do_uses.f a0_0 a0_1 a0_2).bind fun t361 => (if t361 = true then ((impl_in.f a0_1 0 2).bind fun t362 => (impl_Do_formed.j0 k t362 a0_0 a0_1 a0_2)) else (impl_Do_formed.j0 k false a0_0 a0_1 a0_2)))
theorem impl_Do_formed.mono_l : ∀ k, (∀ y0 y1 y2 y3, LeO (impl_Do_formed.j0 k y0 y1 y2 y3) (impl_Do_formed.j0 (k + 1) y0 y1 y2 y3))
  | 0 => fun _ _ _ _ r h => by simp [impl_Do_formed.j0] at h
  | k + 1 => by
    have ih0 := impl_Do_formed.mono_l k
    · intro y0 y1 y2 y3
      unfold impl_Do_formed.j0
      repeat' first
      | (with_reducible exact ih0 _ _ _ _)
      | (with_reducible exact LeO.refl _)
      | (with_reducible exact LeO.none _)
      | (with_reducible refine LeO.ite ?_ ?_)
      | (with_reducible refine LeO.bind ?_ (fun _ => ?_))
      | exact ih0 _ _ _ _
      | exact LeO.none _
      | refine LeO.ite ?_ ?_
      | refine LeO.bind ?_ (fun _ => ?_)
theorem impl_Do_formed.mono : ∀ a0 a1 a2 k, LeO (impl_Do_formed.f k a0 a1 a2) (impl_Do_formed.f (k + 1) a0 a1 a2) := by
  intro a0 a1 a2 k
  have ih0 := impl_Do_formed.mono_l k
  unfold impl_Do_formed.f
  repeat' first
      | (with_reducible exact ih0 _ _ _ _)
      | (with_reducible exact LeO.refl _)
      | (with_reducible exact LeO.none _)
      | (with_reducible refine LeO.ite ?_ ?_)
      | (with_reducible refine LeO.bind ?_ (fun _ => ?_))
      | exact ih0 _ _ _ _
      | exact LeO.none _
      | refine LeO.ite ?_ ?_
      | refine LeO.bind ?_ (fun _ => ?_)
set_option maxHeartbeats 8000000 in
set_option maxRecDepth 100000 in
theorem impl_Do_formed.calls (k : Nat) (a0_0 : Int) (a0_1 : Int) (a0_2 : Int) (r : Bool) (w : World) (h : impl_Do_formed.f k a0_0 a0_1 a0_2 = some r) :
  Calls Try.prog 116 #[.agg #[.int .i64 a0_0, .int .i64 a0_1, .int .i64 a0_2]] w fun e w' => e = .returned (.bool r) ∧ Below w.heap.size w w' := by
 have hu85 := Try.underlying85
 have HB := am_ (Below.refl w.heap.size w)
 have H : (if a0_1 = 0 then (impl_Do_formed.j0 k true a0_0 a0_1 a0_2) else ((impl_Do_uses.f a0_0 a0_1 a0_2).bind fun t361 => (if t361 = true then ((impl_in.f a0_1 0 2).bind fun t362 => (impl_Do_formed.j0 k t362 a0_0 a0_1 a0_2)) else (impl_Do_formed.j0 k false a0_0 a0_1 a0_2)))) = some r := h
 clear h
 have HC2 := am_ H
 clear H
 go_enter Try.func116, Try.ntmps116
 go_upto_region 1 with (first | ((with_reducible refine gate_dst (N := 1) rfl ?_); refine box_event ?hg (N := 1) ?hd (cs := #[.int .i64 a0_0, .int .i64 a0_1, .int .i64 a0_2]) (t := 85) ?hr ?_; (case hd => rfl); (case hg => rfl); (case hr => first | (go_simp; done) | (go_simp; rfl)); intro gb360 hg w3 hbox hb; have n0_ := am_ (below_step z116_3 hb); have n1_ := am_ (hbox); have n2_ := am_ (by rw [hg]; exact (below_size z116_3) : w.heap.size ≤ gb360); have n3_ := am_ (by rw [hg]; exact (below_size z116_3) : w.heap.size ≤ gb360); clear HB; have HB := n0_; have BK360 := n1_; have GW360 := n2_; have GE360 := n3_; clear n0_ n1_ n2_ n3_; clear hb hbox hg))
 (try simp only [Act.put, List.setIfInBounds_toArray, List.set_cons_zero, List.set_cons_succ])
 go_cut [3] (fun v3 wc => ∃ (kq : Nat) (x3_1 : Bool), v3 = .bool x3_1 ∧ Aside0 (impl_Do_formed.j0 kq x3_1 a0_0 a0_1 a0_2 = some r) ∧ Aside0 (kq ≤ k) ∧ Aside0 (wc.heap[gb360]? = some (.cells #[.int .i64 a0_0, .int .i64 a0_1, .int .i64 a0_2] 85 (0, 0))) ∧ Aside0 (Below w.heap.size w wc))
 case first =>
  have H := HC2.out
  clear HC2
  by_cases c4 : a0_1 = 0
  ·rw [if_pos c4] at H
   have c4b0 : (a0_1 == 0) = true := beq_iff_eq.mpr c4
   have c4b1 : (a0_1 != 0) = false := bne_eq_false_iff_eq.mpr c4
   clear c4
   (first | rw [c4b0] | (simp only [i64_w, i32_w]; rw [c4b0]) | skip)
   have H' := am_ H
   clear H
   have hcz5_0 : w3.cell? ⟨gb360, 0, none⟩ = some (.int .i64 a0_0) := (blk_cell BK360.out 0).trans rfl
   have hcz5_1 : w3.cell? ⟨gb360, 1, none⟩ = some (.int .i64 a0_1) := (blk_cell BK360.out 1).trans rfl
   have hcz5_2 : w3.cell? ⟨gb360, 2, none⟩ = some (.int .i64 a0_2) := (blk_cell BK360.out 2).trans rfl
   have hfz5_0 := blk_frozen BK360.out 0
   have hfz5_1 := blk_frozen BK360.out 1
   have hfz5_2 := blk_frozen BK360.out 2
   go_wp2
   go_meet
   case rel => exact ⟨_, (true), z116_1, H', ⟨by first | omega | exact Nat.le_refl _⟩, ⟨bu BK360.out⟩, ⟨z116_4⟩⟩
  ·rw [if_neg c4] at H
   have c4b0 : (a0_1 == 0) = false := beq_eq_false_iff_ne.mpr c4
   have c4b1 : (a0_1 != 0) = true := bne_iff_ne.mpr c4
   (first | rw [c4b0] | (simp only [i64_w, i32_w]; rw [c4b0]) | skip)
   replace H := Option.bind_eq_some_iff.mp H
   obtain ⟨t361, A60, H⟩ := H
   replace H : (if t361 = true then ((impl_in.f a0_1 0 2).bind fun t362 => (impl_Do_formed.j0 k t362 a0_0 a0_1 a0_2)) else (impl_Do_formed.j0 k false a0_0 a0_1 a0_2)) = some r := H
   have A6 := am_ A60
   clear A60
   by_cases c7 : t361 = true
   ·subst c7
    have H1 : ((impl_in.f a0_1 0 2).bind fun t362 => (impl_Do_formed.j0 k t362 a0_0 a0_1 a0_2)) = some r := by rw [if_pos rfl] at H; exact H
    clear H
    have H := H1
    clear H1
    replace H := Option.bind_eq_some_iff.mp H
    obtain ⟨t362, A80, H⟩ := H
    replace H : (impl_Do_formed.j0 k t362 a0_0 a0_1 a0_2) = some r := H
    have A8 := am_ A80
    clear A80
    have H' := am_ H
    clear H
    have hcz9_0 : w3.cell? ⟨gb360, 0, none⟩ = some (.int .i64 a0_0) := (blk_cell BK360.out 0).trans rfl
    have hcz9_1 : w3.cell? ⟨gb360, 1, none⟩ = some (.int .i64 a0_1) := (blk_cell BK360.out 1).trans rfl
    have hcz9_2 : w3.cell? ⟨gb360, 2, none⟩ = some (.int .i64 a0_2) := (blk_cell BK360.out 2).trans rfl
    have hfz9_0 := blk_frozen BK360.out 0
    have hfz9_1 := blk_frozen BK360.out 1
    have hfz9_2 := blk_frozen BK360.out 2
    go_wp2_with (first | (go_at_call 78; (with_reducible refine (impl_Do_uses.calls a0_0 a0_1 a0_2 true _ A6.out).mono ?_); rintro e w10 ⟨rfl, hb⟩; have n0_ := am_ (blk_below (bu BK360.out) hb); have n1_ := am_ (below_step z116_4 hb); clear BK360 HB; have BK360 := n0_; have HB := n1_; clear n0_ n1_; (try clear hb); (try clear hb2); (try clear hk); (try clear hi); have hcz11_0 : w10.cell? ⟨gb360, 0, none⟩ = some (.int .i64 a0_0) := (blk_cell BK360.out 0).trans rfl; have hcz11_1 : w10.cell? ⟨gb360, 1, none⟩ = some (.int .i64 a0_1) := (blk_cell BK360.out 1).trans rfl; have hcz11_2 : w10.cell? ⟨gb360, 2, none⟩ = some (.int .i64 a0_2) := (blk_cell BK360.out 2).trans rfl; have hfz11_0 := blk_frozen BK360.out 0; have hfz11_1 := blk_frozen BK360.out 1; have hfz11_2 := blk_frozen BK360.out 2) | (go_at_call 66; (with_reducible refine (impl_in.calls a0_1 0 2 t362 _ A8.out).mono ?_); rintro e w' ⟨rfl, ⟨nd, rfl⟩⟩))
    go_meet
    case rel => exact ⟨_, (t362), z116_1, H', ⟨by first | omega | exact Nat.le_refl _⟩, ⟨bu BK360.out⟩, ⟨z116_4⟩⟩
   ·replace c7 := Bool.eq_false_iff.mpr c7
    subst c7
    have H1 : (impl_Do_formed.j0 k false a0_0 a0_1 a0_2) = some r := by rw [if_neg (show ¬ (false = true) by decide)] at H; exact H
    clear H
    have H := H1
    clear H1
    have H' := am_ H
    clear H
    have hcz12_0 : w3.cell? ⟨gb360, 0, none⟩ = some (.int .i64 a0_0) := (blk_cell BK360.out 0).trans rfl
    have hcz12_1 : w3.cell? ⟨gb360, 1, none⟩ = some (.int .i64 a0_1) := (blk_cell BK360.out 1).trans rfl
    have hcz12_2 : w3.cell? ⟨gb360, 2, none⟩ = some (.int .i64 a0_2) := (blk_cell BK360.out 2).trans rfl
    have hfz12_0 := blk_frozen BK360.out 0
    have hfz12_1 := blk_frozen BK360.out 1
    have hfz12_2 := blk_frozen BK360.out 2
    go_wp2_with (first | (go_at_call 78; (with_reducible refine (impl_Do_uses.calls a0_0 a0_1 a0_2 false _ A6.out).mono ?_); rintro e w13 ⟨rfl, hb⟩; have n0_ := am_ (blk_below (bu BK360.out) hb); have n1_ := am_ (below_step z116_4 hb); clear BK360 HB; have BK360 := n0_; have HB := n1_; clear n0_ n1_; (try clear hb); (try clear hb2); (try clear hk); (try clear hi)))
    go_meet
    case rel => exact ⟨_, (false), z116_1, H', ⟨by first | omega | exact Nat.le_refl _⟩, ⟨bu BK360.out⟩, ⟨z116_4⟩⟩
 case rest =>
  clear HC2
  obtain ⟨kq, x3_1, rfl, HA, HJ1, BK360, HB⟩ := hcut
  cases kq with
  | zero => exact absurd HA.out (by simp [impl_Do_formed.j0])
  | succ kj1 =>
   have H := HA.out
   clear HA
   simp only [impl_Do_formed.j0] at H
   replace H := Option.bind_eq_some_iff.mp H
   obtain ⟨t363, A140, H⟩ := H
   replace H : (if t363 = true then ((impl_in.f a0_2 1 3).bind fun t364 => ((impl_in.f a0_0 1 9).bind fun t365 => (if t365 = true then (if x3_1 = true then (some t364) else (some false)) else (some false)))) else ((impl_in.f a0_0 1 9).bind fun t366 => (if t366 = true then (if x3_1 = true then (some (a0_2 == 0)) else (some false)) else (some false)))) = some r := H
   have A14 := am_ A140
   clear A140
   by_cases c15 : t363 = true
   ·subst c15
    have H1 : ((impl_in.f a0_2 1 3).bind fun t364 => ((impl_in.f a0_0 1 9).bind fun t365 => (if t365 = true then (if x3_1 = true then (some t364) else (some false)) else (some false)))) = some r := by rw [if_pos rfl] at H; exact H
    clear H
    have H := H1
    clear H1
    replace H := Option.bind_eq_some_iff.mp H
    obtain ⟨t364, A160, H⟩ := H
    replace H : ((impl_in.f a0_0 1 9).bind fun t365 => (if t365 = true then (if x3_1 = true then (some t364) else (some false)) else (some false))) = some r := H
    have A16 := am_ A160
    clear A160
    replace H := Option.bind_eq_some_iff.mp H
    obtain ⟨t365, A170, H⟩ := H
    replace H : (if t365 = true then (if x3_1 = true then (some t364) else (some false)) else (some false)) = some r := H
    have A17 := am_ A170
    clear A170
    by_cases c18 : t365 = true
    ·subst c18
     have H1 : (if x3_1 = true then (some t364) else (some false)) = some r := by rw [if_pos rfl] at H; exact H
     clear H
     have H := H1
     clear H1
     by_cases c19 : x3_1 = true
     ·subst c19
      have H1 : (some t364) = some r := by rw [if_pos rfl] at H; exact H
      clear H
      have H := H1
      clear H1
      obtain rfl := Option.some.inj H
      have hcz20_0 : wc.cell? ⟨gb360, 0, none⟩ = some (.int .i64 a0_0) := (blk_cell BK360.out 0).trans rfl
      have hcz20_1 : wc.cell? ⟨gb360, 1, none⟩ = some (.int .i64 a0_1) := (blk_cell BK360.out 1).trans rfl
      have hcz20_2 : wc.cell? ⟨gb360, 2, none⟩ = some (.int .i64 a0_2) := (blk_cell BK360.out 2).trans rfl
      have hfz20_0 := blk_frozen BK360.out 0
      have hfz20_1 := blk_frozen BK360.out 1
      have hfz20_2 := blk_frozen BK360.out 2
      go_wp2_with (first | ((with_reducible refine gate_callee (f := 131) rfl ?_); refine goesL_ (some 21) rfl rfl Try.func131 (by kernel_rfl) rfl #[.agg #[.int .i64 a0_0, .int .i64 a0_1, .int .i64 a0_2]] rfl (by (try simp only [List.map_toArray, List.map_cons, List.map_nil]); first | done | rfl | (simp only [List.length_drop, List.length_take]; rfl)) ?_; (with_reducible refine (impl_Do_valued.calls a0_0 a0_1 a0_2 true _ A14.out).mono ?_); rintro e w21 ⟨rfl, hb⟩; refine ⟨_, rfl, ?_⟩; have n0_ := am_ (blk_below (bu BK360.out) hb); have n1_ := am_ (below_step z116_4 hb); clear BK360 HB; have BK360 := n0_; have HB := n1_; clear n0_ n1_; (try clear hb); (try clear hb2); (try clear hk); (try clear hi); have hcz22_0 : w21.cell? ⟨gb360, 0, none⟩ = some (.int .i64 a0_0) := (blk_cell BK360.out 0).trans rfl; have hcz22_1 : w21.cell? ⟨gb360, 1, none⟩ = some (.int .i64 a0_1) := (blk_cell BK360.out 1).trans rfl; have hcz22_2 : w21.cell? ⟨gb360, 2, none⟩ = some (.int .i64 a0_2) := (blk_cell BK360.out 2).trans rfl; have hfz22_0 := blk_frozen BK360.out 0; have hfz22_1 := blk_frozen BK360.out 1; have hfz22_2 := blk_frozen BK360.out 2) | ((with_reducible refine gate_callee (f := 66) rfl ?_); refine goesL_ (some 24) rfl rfl Try.func66 (by kernel_rfl) rfl #[.int .i64 a0_2, .int .i64 1, .int .i64 3] rfl (by (try simp only [List.map_toArray, List.map_cons, List.map_nil]); first | done | rfl | (simp only [List.length_drop, List.length_take]; rfl)) ?_; (with_reducible refine (impl_in.calls a0_2 1 3 t364 _ A16.out).mono ?_); rintro e w' ⟨rfl, ⟨nd, rfl⟩⟩; refine ⟨_, rfl, ?_⟩) | ((with_reducible refine gate_callee (f := 66) rfl ?_); refine goesL_ (some 27) rfl rfl Try.func66 (by kernel_rfl) rfl #[.int .i64 a0_0, .int .i64 1, .int .i64 9] rfl (by (try simp only [List.map_toArray, List.map_cons, List.map_nil]); first | done | rfl | (simp only [List.length_drop, List.length_take]; rfl)) ?_; (with_reducible refine (impl_in.calls a0_0 1 9 true _ A17.out).mono ?_); rintro e w' ⟨rfl, ⟨nd, rfl⟩⟩; refine ⟨_, rfl, ?_⟩))
      go_ret
      exact ⟨z116_2, z116_4⟩
     ·replace c19 := Bool.eq_false_iff.mpr c19
      subst c19
      have H1 : (some false) = some r := by rw [if_neg (show ¬ (false = true) by decide)] at H; exact H
      clear H
      have H := H1
      clear H1
      obtain rfl := Option.some.inj H
      have hcz23_0 : wc.cell? ⟨gb360, 0, none⟩ = some (.int .i64 a0_0) := (blk_cell BK360.out 0).trans rfl
      have hcz23_1 : wc.cell? ⟨gb360, 1, none⟩ = some (.int .i64 a0_1) := (blk_cell BK360.out 1).trans rfl
      have hcz23_2 : wc.cell? ⟨gb360, 2, none⟩ = some (.int .i64 a0_2) := (blk_cell BK360.out 2).trans rfl
      have hfz23_0 := blk_frozen BK360.out 0
      have hfz23_1 := blk_frozen BK360.out 1
      have hfz23_2 := blk_frozen BK360.out 2
      go_wp2_with (first | ((with_reducible refine gate_callee (f := 131) rfl ?_); refine goesL_ (some 21) rfl rfl Try.func131 (by kernel_rfl) rfl #[.agg #[.int .i64 a0_0, .int .i64 a0_1, .int .i64 a0_2]] rfl (by (try simp only [List.map_toArray, List.map_cons, List.map_nil]); first | done | rfl | (simp only [List.length_drop, List.length_take]; rfl)) ?_; (with_reducible refine (impl_Do_valued.calls a0_0 a0_1 a0_2 true _ A14.out).mono ?_); rintro e w24 ⟨rfl, hb⟩; refine ⟨_, rfl, ?_⟩; have n0_ := am_ (blk_below (bu BK360.out) hb); have n1_ := am_ (below_step z116_4 hb); clear BK360 HB; have BK360 := n0_; have HB := n1_; clear n0_ n1_; (try clear hb); (try clear hb2); (try clear hk); (try clear hi); have hcz25_0 : w24.cell? ⟨gb360, 0, none⟩ = some (.int .i64 a0_0) := (blk_cell BK360.out 0).trans rfl; have hcz25_1 : w24.cell? ⟨gb360, 1, none⟩ = some (.int .i64 a0_1) := (blk_cell BK360.out 1).trans rfl; have hcz25_2 : w24.cell? ⟨gb360, 2, none⟩ = some (.int .i64 a0_2) := (blk_cell BK360.out 2).trans rfl; have hfz25_0 := blk_frozen BK360.out 0; have hfz25_1 := blk_frozen BK360.out 1; have hfz25_2 := blk_frozen BK360.out 2) | ((with_reducible refine gate_callee (f := 66) rfl ?_); refine goesL_ (some 24) rfl rfl Try.func66 (by kernel_rfl) rfl #[.int .i64 a0_2, .int .i64 1, .int .i64 3] rfl (by (try simp only [List.map_toArray, List.map_cons, List.map_nil]); first | done | rfl | (simp only [List.length_drop, List.length_take]; rfl)) ?_; (with_reducible refine (impl_in.calls a0_2 1 3 t364 _ A16.out).mono ?_); rintro e w' ⟨rfl, ⟨nd, rfl⟩⟩; refine ⟨_, rfl, ?_⟩) | ((with_reducible refine gate_callee (f := 66) rfl ?_); refine goesL_ (some 27) rfl rfl Try.func66 (by kernel_rfl) rfl #[.int .i64 a0_0, .int .i64 1, .int .i64 9] rfl (by (try simp only [List.map_toArray, List.map_cons, List.map_nil]); first | done | rfl | (simp only [List.length_drop, List.length_take]; rfl)) ?_; (with_reducible refine (impl_in.calls a0_0 1 9 true _ A17.out).mono ?_); rintro e w' ⟨rfl, ⟨nd, rfl⟩⟩; refine ⟨_, rfl, ?_⟩))
      go_ret
      exact ⟨z116_2, z116_4⟩
    ·replace c18 := Bool.eq_false_iff.mpr c18
     subst c18
     have H1 : (some false) = some r := by rw [if_neg (show ¬ (false = true) by decide)] at H; exact H
     clear H
     have H := H1
     clear H1
     obtain rfl := Option.some.inj H
     have hcz26_0 : wc.cell? ⟨gb360, 0, none⟩ = some (.int .i64 a0_0) := (blk_cell BK360.out 0).trans rfl
     have hcz26_1 : wc.cell? ⟨gb360, 1, none⟩ = some (.int .i64 a0_1) := (blk_cell BK360.out 1).trans rfl
     have hcz26_2 : wc.cell? ⟨gb360, 2, none⟩ = some (.int .i64 a0_2) := (blk_cell BK360.out 2).trans rfl
     have hfz26_0 := blk_frozen BK360.out 0
     have hfz26_1 := blk_frozen BK360.out 1
     have hfz26_2 := blk_frozen BK360.out 2
     go_wp2_with (first | ((with_reducible refine gate_callee (f := 131) rfl ?_); refine goesL_ (some 21) rfl rfl Try.func131 (by kernel_rfl) rfl #[.agg #[.int .i64 a0_0, .int .i64 a0_1, .int .i64 a0_2]] rfl (by (try simp only [List.map_toArray, List.map_cons, List.map_nil]); first | done | rfl | (simp only [List.length_drop, List.length_take]; rfl)) ?_; (with_reducible refine (impl_Do_valued.calls a0_0 a0_1 a0_2 true _ A14.out).mono ?_); rintro e w27 ⟨rfl, hb⟩; refine ⟨_, rfl, ?_⟩; have n0_ := am_ (blk_below (bu BK360.out) hb); have n1_ := am_ (below_step z116_4 hb); clear BK360 HB; have BK360 := n0_; have HB := n1_; clear n0_ n1_; (try clear hb); (try clear hb2); (try clear hk); (try clear hi); have hcz28_0 : w27.cell? ⟨gb360, 0, none⟩ = some (.int .i64 a0_0) := (blk_cell BK360.out 0).trans rfl; have hcz28_1 : w27.cell? ⟨gb360, 1, none⟩ = some (.int .i64 a0_1) := (blk_cell BK360.out 1).trans rfl; have hcz28_2 : w27.cell? ⟨gb360, 2, none⟩ = some (.int .i64 a0_2) := (blk_cell BK360.out 2).trans rfl; have hfz28_0 := blk_frozen BK360.out 0; have hfz28_1 := blk_frozen BK360.out 1; have hfz28_2 := blk_frozen BK360.out 2) | ((with_reducible refine gate_callee (f := 66) rfl ?_); refine goesL_ (some 24) rfl rfl Try.func66 (by kernel_rfl) rfl #[.int .i64 a0_2, .int .i64 1, .int .i64 3] rfl (by (try simp only [List.map_toArray, List.map_cons, List.map_nil]); first | done | rfl | (simp only [List.length_drop, List.length_take]; rfl)) ?_; (with_reducible refine (impl_in.calls a0_2 1 3 t364 _ A16.out).mono ?_); rintro e w' ⟨rfl, ⟨nd, rfl⟩⟩; refine ⟨_, rfl, ?_⟩) | ((with_reducible refine gate_callee (f := 66) rfl ?_); refine goesL_ (some 27) rfl rfl Try.func66 (by kernel_rfl) rfl #[.int .i64 a0_0, .int .i64 1, .int .i64 9] rfl (by (try simp only [List.map_toArray, List.map_cons, List.map_nil]); first | done | rfl | (simp only [List.length_drop, List.length_take]; rfl)) ?_; (with_reducible refine (impl_in.calls a0_0 1 9 false _ A17.out).mono ?_); rintro e w' ⟨rfl, ⟨nd, rfl⟩⟩; refine ⟨_, rfl, ?_⟩))
     go_ret
     exact ⟨z116_2, z116_4⟩
   ·replace c15 := Bool.eq_false_iff.mpr c15
    subst c15
    have H1 : ((impl_in.f a0_0 1 9).bind fun t366 => (if t366 = true then (if x3_1 = true then (some (a0_2 == 0)) else (some false)) else (some false))) = some r := by rw [if_neg (show ¬ (false = true) by decide)] at H; exact H
    clear H
    have H := H1
    clear H1
    replace H := Option.bind_eq_some_iff.mp H
    obtain ⟨t366, A290, H⟩ := H
    replace H : (if t366 = true then (if x3_1 = true then (some (a0_2 == 0)) else (some false)) else (some false)) = some r := H
    have A29 := am_ A290
    clear A290
    by_cases c30 : t366 = true
    ·subst c30
     have H1 : (if x3_1 = true then (some (a0_2 == 0)) else (some false)) = some r := by rw [if_pos rfl] at H; exact H
     clear H
     have H := H1
     clear H1
     by_cases c31 : x3_1 = true
     ·subst c31
      have H1 : (some (a0_2 == 0)) = some r := by rw [if_pos rfl] at H; exact H
      clear H
      have H := H1
      clear H1
      obtain rfl := Option.some.inj H
      have hcz32_0 : wc.cell? ⟨gb360, 0, none⟩ = some (.int .i64 a0_0) := (blk_cell BK360.out 0).trans rfl
      have hcz32_1 : wc.cell? ⟨gb360, 1, none⟩ = some (.int .i64 a0_1) := (blk_cell BK360.out 1).trans rfl
      have hcz32_2 : wc.cell? ⟨gb360, 2, none⟩ = some (.int .i64 a0_2) := (blk_cell BK360.out 2).trans rfl
      have hfz32_0 := blk_frozen BK360.out 0
      have hfz32_1 := blk_frozen BK360.out 1
      have hfz32_2 := blk_frozen BK360.out 2
      go_wp2_with (first | ((with_reducible refine gate_callee (f := 131) rfl ?_); refine goesL_ (some 21) rfl rfl Try.func131 (by kernel_rfl) rfl #[.agg #[.int .i64 a0_0, .int .i64 a0_1, .int .i64 a0_2]] rfl (by (try simp only [List.map_toArray, List.map_cons, List.map_nil]); first | done | rfl | (simp only [List.length_drop, List.length_take]; rfl)) ?_; (with_reducible refine (impl_Do_valued.calls a0_0 a0_1 a0_2 false _ A14.out).mono ?_); rintro e w33 ⟨rfl, hb⟩; refine ⟨_, rfl, ?_⟩; have n0_ := am_ (blk_below (bu BK360.out) hb); have n1_ := am_ (below_step z116_4 hb); clear BK360 HB; have BK360 := n0_; have HB := n1_; clear n0_ n1_; (try clear hb); (try clear hb2); (try clear hk); (try clear hi); have hcz34_0 : w33.cell? ⟨gb360, 0, none⟩ = some (.int .i64 a0_0) := (blk_cell BK360.out 0).trans rfl; have hcz34_1 : w33.cell? ⟨gb360, 1, none⟩ = some (.int .i64 a0_1) := (blk_cell BK360.out 1).trans rfl; have hcz34_2 : w33.cell? ⟨gb360, 2, none⟩ = some (.int .i64 a0_2) := (blk_cell BK360.out 2).trans rfl; have hfz34_0 := blk_frozen BK360.out 0; have hfz34_1 := blk_frozen BK360.out 1; have hfz34_2 := blk_frozen BK360.out 2) | ((with_reducible refine gate_callee (f := 66) rfl ?_); refine goesL_ (some 27) rfl rfl Try.func66 (by kernel_rfl) rfl #[.int .i64 a0_0, .int .i64 1, .int .i64 9] rfl (by (try simp only [List.map_toArray, List.map_cons, List.map_nil]); first | done | rfl | (simp only [List.length_drop, List.length_take]; rfl)) ?_; (with_reducible refine (impl_in.calls a0_0 1 9 true _ A29.out).mono ?_); rintro e w' ⟨rfl, ⟨nd, rfl⟩⟩; refine ⟨_, rfl, ?_⟩))
      go_ret
      exact ⟨z116_2, z116_4⟩
     ·replace c31 := Bool.eq_false_iff.mpr c31
      subst c31
      have H1 : (some false) = some r := by rw [if_neg (show ¬ (false = true) by decide)] at H; exact H
      clear H
      have H := H1
      clear H1
      obtain rfl := Option.some.inj H
      have hcz35_0 : wc.cell? ⟨gb360, 0, none⟩ = some (.int .i64 a0_0) := (blk_cell BK360.out 0).trans rfl
      have hcz35_1 : wc.cell? ⟨gb360, 1, none⟩ = some (.int .i64 a0_1) := (blk_cell BK360.out 1).trans rfl
      have hcz35_2 : wc.cell? ⟨gb360, 2, none⟩ = some (.int .i64 a0_2) := (blk_cell BK360.out 2).trans rfl
      have hfz35_0 := blk_frozen BK360.out 0
      have hfz35_1 := blk_frozen BK360.out 1
      have hfz35_2 := blk_frozen BK360.out 2
      go_wp2_with (first | ((with_reducible refine gate_callee (f := 131) rfl ?_); refine goesL_ (some 21) rfl rfl Try.func131 (by kernel_rfl) rfl #[.agg #[.int .i64 a0_0, .int .i64 a0_1, .int .i64 a0_2]] rfl (by (try simp only [List.map_toArray, List.map_cons, List.map_nil]); first | done | rfl | (simp only [List.length_drop, List.length_take]; rfl)) ?_; (with_reducible refine (impl_Do_valued.calls a0_0 a0_1 a0_2 false _ A14.out).mono ?_); rintro e w36 ⟨rfl, hb⟩; refine ⟨_, rfl, ?_⟩; have n0_ := am_ (blk_below (bu BK360.out) hb); have n1_ := am_ (below_step z116_4 hb); clear BK360 HB; have BK360 := n0_; have HB := n1_; clear n0_ n1_; (try clear hb); (try clear hb2); (try clear hk); (try clear hi); have hcz37_0 : w36.cell? ⟨gb360, 0, none⟩ = some (.int .i64 a0_0) := (blk_cell BK360.out 0).trans rfl; have hcz37_1 : w36.cell? ⟨gb360, 1, none⟩ = some (.int .i64 a0_1) := (blk_cell BK360.out 1).trans rfl; have hcz37_2 : w36.cell? ⟨gb360, 2, none⟩ = some (.int .i64 a0_2) := (blk_cell BK360.out 2).trans rfl; have hfz37_0 := blk_frozen BK360.out 0; have hfz37_1 := blk_frozen BK360.out 1; have hfz37_2 := blk_frozen BK360.out 2) | ((with_reducible refine gate_callee (f := 66) rfl ?_); refine goesL_ (some 27) rfl rfl Try.func66 (by kernel_rfl) rfl #[.int .i64 a0_0, .int .i64 1, .int .i64 9] rfl (by (try simp only [List.map_toArray, List.map_cons, List.map_nil]); first | done | rfl | (simp only [List.length_drop, List.length_take]; rfl)) ?_; (with_reducible refine (impl_in.calls a0_0 1 9 true _ A29.out).mono ?_); rintro e w' ⟨rfl, ⟨nd, rfl⟩⟩; refine ⟨_, rfl, ?_⟩))
      go_ret
      exact ⟨z116_2, z116_4⟩
    ·replace c30 := Bool.eq_false_iff.mpr c30
     subst c30
     have H1 : (some false) = some r := by rw [if_neg (show ¬ (false = true) by decide)] at H; exact H
     clear H
     have H := H1
     clear H1
     obtain rfl := Option.some.inj H
     have hcz38_0 : wc.cell? ⟨gb360, 0, none⟩ = some (.int .i64 a0_0) := (blk_cell BK360.out 0).trans rfl
     have hcz38_1 : wc.cell? ⟨gb360, 1, none⟩ = some (.int .i64 a0_1) := (blk_cell BK360.out 1).trans rfl
     have hcz38_2 : wc.cell? ⟨gb360, 2, none⟩ = some (.int .i64 a0_2) := (blk_cell BK360.out 2).trans rfl
     have hfz38_0 := blk_frozen BK360.out 0
     have hfz38_1 := blk_frozen BK360.out 1
     have hfz38_2 := blk_frozen BK360.out 2
     go_wp2_with (first | ((with_reducible refine gate_callee (f := 131) rfl ?_); refine goesL_ (some 21) rfl rfl Try.func131 (by kernel_rfl) rfl #[.agg #[.int .i64 a0_0, .int .i64 a0_1, .int .i64 a0_2]] rfl (by (try simp only [List.map_toArray, List.map_cons, List.map_nil]); first | done | rfl | (simp only [List.length_drop, List.length_take]; rfl)) ?_; (with_reducible refine (impl_Do_valued.calls a0_0 a0_1 a0_2 false _ A14.out).mono ?_); rintro e w39 ⟨rfl, hb⟩; refine ⟨_, rfl, ?_⟩; have n0_ := am_ (blk_below (bu BK360.out) hb); have n1_ := am_ (below_step z116_4 hb); clear BK360 HB; have BK360 := n0_; have HB := n1_; clear n0_ n1_; (try clear hb); (try clear hb2); (try clear hk); (try clear hi); have hcz40_0 : w39.cell? ⟨gb360, 0, none⟩ = some (.int .i64 a0_0) := (blk_cell BK360.out 0).trans rfl; have hcz40_1 : w39.cell? ⟨gb360, 1, none⟩ = some (.int .i64 a0_1) := (blk_cell BK360.out 1).trans rfl; have hcz40_2 : w39.cell? ⟨gb360, 2, none⟩ = some (.int .i64 a0_2) := (blk_cell BK360.out 2).trans rfl; have hfz40_0 := blk_frozen BK360.out 0; have hfz40_1 := blk_frozen BK360.out 1; have hfz40_2 := blk_frozen BK360.out 2) | ((with_reducible refine gate_callee (f := 66) rfl ?_); refine goesL_ (some 27) rfl rfl Try.func66 (by kernel_rfl) rfl #[.int .i64 a0_0, .int .i64 1, .int .i64 9] rfl (by (try simp only [List.map_toArray, List.map_cons, List.map_nil]); first | done | rfl | (simp only [List.length_drop, List.length_take]; rfl)) ?_; (with_reducible refine (impl_in.calls a0_0 1 9 false _ A29.out).mono ?_); rintro e w' ⟨rfl, ⟨nd, rfl⟩⟩; refine ⟨_, rfl, ?_⟩))
     go_ret
     exact ⟨z116_2, z116_4⟩

end Go.Proofs.Ytefkbmhkhpekjaa.PB

namespace Go.Proofs.Ytefkbmhkhpekjaa.PB
open Go.RowKit Go.Proofs.YtefkbmhkhpekjaaW.PrintWords Go.Proofs.YtefkbmhkhpekjaaW.PrintLast Go.Proofs.YtefkbmhkhpekjaaW.PrintMore
attribute [local go_sem] max2_int min2_int max_two min_two max_three min_three max_four min_four   -- for this text's walks alone
open Go.Proofs.YtefkbmhkhpekjaaMine
set_option linter.unusedVariables false
set_option linter.unusedSimpArgs false

theorem z77_1 {p : Prop} (h : p := by first | rfl | (simp; done) | (simp [*]; done)) : p := h
theorem z77_2 {p : Prop} (h : p := by first | rfl | (simp [errW_none, errW_some] <;> rfl) | (simp [*, errW_none, errW_some] <;> rfl)) : p := h
theorem z77_3 {p : Prop} (h : p := by repeat (first | (with_reducible first | exact HB.out | apply below_alloc | apply pw_below_drewN | apply below_drew1) | exact HB.out)) : p := h
theorem z77_4 {p : Prop} (h : p := by repeat (first | (with_reducible first | exact HB.out | apply below_alloc | apply pw_below_drewN | apply below_drew1 | refine below_set ?_ GE368.out) | exact HB.out)) : p := h
theorem z77_5 {p : Prop} (h : p := by (with_reducible repeat (first | refine blk_drewN ?_ _ | refine blk_drew ?_ | refine blk_alloc ?_ _)); refine blk_put (cs := #[.int .i64 ((rd_T85 l0 x10_1).f0), .int .i64 ((rd_T85 l0 x10_1).f1), .int .i64 0]) ?_ 2 _ rfl; (with_reducible repeat (first | refine blk_drewN ?_ _ | refine blk_drew ?_ | refine blk_alloc ?_ _)); refine blk_put (cs := #[.int .i64 ((rd_T85 l0 x10_1).f0), .int .i64 0, .int .i64 0]) ?_ 1 _ rfl; (with_reducible repeat (first | refine blk_drewN ?_ _ | refine blk_drew ?_ | refine blk_alloc ?_ _)); refine blk_put (cs := #[.int .i64 0, .int .i64 0, .int .i64 0]) ?_ 0 _ rfl; (with_reducible repeat (first | refine blk_drewN ?_ _ | refine blk_drew ?_ | refine blk_alloc ?_ _)); exact BK368.out) : p := h
/-! ### impl_threadOk: function 77 -/
mutual
def impl_threadOk.l0 : Nat → List (S85) → Bool → Bool → List (S85) → Int → Int → Option (Bool)
  | 0, _, _, _, _, _, _ => none
  | k + 1, x0, x3, x4, x8, x9, x10 => if x10 < x9 then (if 0 ≤ x10 then (if x10 < (x8.length : Int) then (if ((rd_T85 x8 x10).f0) = 3 then (if x3 = true then (if x4 = true then (if ((rd_T85 x8 x10).f0) = 7 then (impl_threadOk.j1 k x0 x3 x4 true x8 x9 x10 ((rd_T85 x8 x10).f0) ((rd_T85 x8 x10).f1) ((rd_T85 x8 x10).f2)) else (if ((rd_T85 x8 x10).f0) = 9 then (impl_threadOk.j1 k x0 x3 x4 true x8 x9 x10 ((rd_T85 x8 x10).f0) ((rd_T85 x8 x10).f1) ((rd_T85 x8 x10).f2)) else (impl_threadOk.j1 k x0 x3 x4 false x8 x9 x10 ((rd_T85 x8 x10).f0) ((rd_T85 x8 x10).f1) ((rd_T85 x8 x10).f2)))) else (impl_threadOk.j1 k x0 x3 x4 (((rd_T85 x8 x10).f0) == 8) x8 x9 x10 ((rd_T85 x8 x10).f0) ((rd_T85 x8 x10).f1) ((rd_T85 x8 x10).f2))) else (impl_threadOk.j1 k x0 x3 x4 true x8 x9 x10 ((rd_T85 x8 x10).f0) ((rd_T85 x8 x10).f1) ((rd_T85 x8 x10).f2))) else (if x4 = true then (if ((rd_T85 x8 x10).f0) = 7 then (impl_threadOk.j1 k x0 x3 x4 true x8 x9 x10 ((rd_T85 x8 x10).f0) ((rd_T85 x8 x10).f1) ((rd_T85 x8 x10).f2)) else (if ((rd_T85 x8 x10).f0) = 9 then (impl_threadOk.j1 k x0 x3 x4 true x8 x9 x10 ((rd_T85 x8 x10).f0) ((rd_T85 x8 x10).f1) ((rd_T85 x8 x10).f2)) else (impl_threadOk.j1 k x0 x3 x4 false x8 x9 x10 ((rd_T85 x8 x10).f0) ((rd_T85 x8 x10).f1) ((rd_T85 x8 x10).f2)))) else (impl_threadOk.j1 k x0 x3 x4 (((rd_T85 x8 x10).f0) == 8) x8 x9 x10 ((rd_T85 x8 x10).f0) ((rd_T85 x8 x10).f1) ((rd_T85 x8 x10).f2)))) else (none)) else (none)) else (if x4 = true then (some false) else (some (decide ((x0.length : Int) ≤ 7))))
def impl_threadOk.j1 : Nat → List (S85) → Bool → Bool → Bool → List (S85) → Int → Int → Int → Int → Int → Option (Bool)
  | 0, _, _, _, _, _, _, _, _, _, _ => none
  | k + 1, x0, x3, x4, x7, x8, x9, x10, x369000, x369001, x369002 => (impl_Do_formed.f k x369000 x369001 x369002).bind fun t369 => (if t369 = true then (if x7 = true then (some false) else (if x3 = true then (if x369000 = 7 then (impl_threadOk.l0 k x0 true true x8 x9 (wrap64 (x10 + 1))) else (if x4 = true then (impl_threadOk.l0 k x0 true (x369000 != 8) x8 x9 (wrap64 (x10 + 1))) else (impl_threadOk.l0 k x0 true false x8 x9 (wrap64 (x10 + 1))))) else ((impl_Do_reads.f x369000 x369001 x369002).bind fun t370 => (if x369000 = 7 then (impl_threadOk.l0 k x0 t370 true x8 x9 (wrap64 (x10 + 1))) else (if x4 = true then (impl_threadOk.l0 k x0 t370 (x369000 != 8) x8 x9 (wrap64 (x10 + 1))) else (impl_threadOk.l0 k x0 t370 false x8 x9 (wrap64 (x10 + 1)))))))) else (some false))
end
def impl_threadOk.f (k : Nat) (l0 : List (S85)) : Option (Bool) := impl_threadOk.l0 k l0 false false l0 (l0.length : Int) 0
theorem impl_threadOk.mono_l : ∀ k, (∀ y0 y1 y2 y3 y4 y5, LeO (impl_threadOk.l0 k y0 y1 y2 y3 y4 y5) (impl_threadOk.l0 (k + 1) y0 y1 y2 y3 y4 y5)) ∧ (∀ y0 y1 y2 y3 y4 y5 y6 y7 y8 y9, LeO (impl_threadOk.j1 k y0 y1 y2 y3 y4 y5 y6 y7 y8 y9) (impl_threadOk.j1 (k + 1) y0 y1 y2 y3 y4 y5 y6 y7 y8 y9))
  | 0 => ⟨fun _ _ _ _ _ _ r h => by simp [impl_threadOk.l0] at h, fun _ _ _ _ _ _ _ _ _ _ r h => by simp [impl_threadOk.j1] at h⟩
  | k + 1 => by
    obtain ⟨ih0, ih1⟩ := impl_threadOk.mono_l k
    refine ⟨?_, ?_⟩
    · intro y0 y1 y2 y3 y4 y5
      unfold impl_threadOk.l0
      repeat' first
      | (with_reducible exact ih0 _ _ _ _ _ _)
      | (with_reducible exact ih1 _ _ _ _ _ _ _ _ _ _)
      | (with_reducible exact impl_Do_formed.mono _ _ _ _)
      | (with_reducible exact LeO.refl _)
      | (with_reducible exact LeO.none _)
      | (with_reducible refine LeO.ite ?_ ?_)
      | (with_reducible refine LeO.bind ?_ (fun _ => ?_))
      | exact ih0 _ _ _ _ _ _
      | exact ih1 _ _ _ _ _ _ _ _ _ _
      | exact impl_Do_formed.mono _ _ _ _
      | exact LeO.none _
      | refine LeO.ite ?_ ?_
      | refine LeO.bind ?_ (fun _ => ?_)
    · intro y0 y1 y2 y3 y4 y5 y6 y7 y8 y9
      unfold impl_threadOk.j1
      repeat' first
      | (with_reducible exact ih0 _ _ _ _ _ _)
      | (with_reducible exact ih1 _ _ _ _ _ _ _ _ _ _)
      | (with_reducible exact impl_Do_formed.mono _ _ _ _)
      | (with_reducible exact LeO.refl _)
      | (with_reducible exact LeO.none _)
      | (with_reducible refine LeO.ite ?_ ?_)
      | (with_reducible refine LeO.bind ?_ (fun _ => ?_))
      | exact ih0 _ _ _ _ _ _
      | exact ih1 _ _ _ _ _ _ _ _ _ _
      | exact impl_Do_formed.mono _ _ _ _
      | exact LeO.none _
      | refine LeO.ite ?_ ?_
      | refine LeO.bind ?_ (fun _ => ?_)
theorem impl_threadOk.mono : ∀ a0 k, LeO (impl_threadOk.f k a0) (impl_threadOk.f (k + 1) a0) := by
  intro a0 k
  obtain ⟨ih0, ih1⟩ := impl_threadOk.mono_l k
  unfold impl_threadOk.f
  repeat' first
      | (with_reducible exact ih0 _ _ _ _ _ _)
      | (with_reducible exact ih1 _ _ _ _ _ _ _ _ _ _)
      | (with_reducible exact impl_Do_formed.mono _ _ _ _)
      | (with_reducible exact LeO.refl _)
      | (with_reducible exact LeO.none _)
      | (with_reducible refine LeO.ite ?_ ?_)
      | (with_reducible refine LeO.bind ?_ (fun _ => ?_))
      | exact ih0 _ _ _ _ _ _
      | exact ih1 _ _ _ _ _ _ _ _ _ _
      | exact impl_Do_formed.mono _ _ _ _
      | exact LeO.none _
      | refine LeO.ite ?_ ?_
      | refine LeO.bind ?_ (fun _ => ?_)
set_option maxHeartbeats 8000000 in
set_option maxRecDepth 100000 in
theorem impl_threadOk.calls (k : Nat) (A0 : Option Addr) (c0 : Nat) (l0 : List (S85)) (r : Bool) (w : World) (hr0 : Kd.C k85 w A0 l0.length l0) (hc0 : l0.length ≤ c0) (h : impl_threadOk.f k l0 = some r) :
  Calls Try.prog 77 #[.slice A0 l0.length c0] w fun e w' => e = .returned (.bool r) ∧ Below w.heap.size w w' := by
 have hu85 := Try.underlying85
 have HR0 := am_ hr0
 have HC0 := am_ hc0
 clear hr0 hc0
 have HB := am_ (Below.refl w.heap.size w)
 have H : (impl_threadOk.l0 k l0 false false l0 (l0.length : Int) 0) = some r := h
 clear h
 have H' := am_ H
 clear H
 go_enter Try.func77, Try.ntmps77
 go_wp2
 go_loopg [3, 4, 10] k (fun kq v3 v4 v10 w' => ∃ (x3_1 : Bool) (x4_1 : Bool) (x10_1 : Int), v3 = .bool x3_1 ∧ v4 = .bool x4_1 ∧ v10 = .int .i64 x10_1 ∧ Aside0 (impl_threadOk.l0 kq l0 x3_1 x4_1 l0 (l0.length : Int) x10_1 = some r) ∧ Aside0 (kq ≤ k) ∧ Aside0 (Below w.heap.size w w'))
 case atStart => exact ⟨(false), (false), (0), z77_1, z77_1, z77_1, H', ⟨Nat.le_refl _⟩, ⟨z77_3⟩⟩
 case round =>
  clear H'
  obtain ⟨x3_1, x4_1, x10_1, rfl, rfl, rfl, HA, HK1, HB⟩ := hrel
  cases gk with
  | zero => exact absurd HA.out (by simp [impl_threadOk.l0])
  | succ k1 =>
   have H := HA.out
   clear HA
   simp only [impl_threadOk.l0] at H
   by_cases c2 : x10_1 < (l0.length : Int)
   ·rw [if_pos c2] at H
    have c2b0 : decide (x10_1 < (l0.length : Int)) = true := decide_eq_true c2
    clear c2
    by_cases c3 : 0 ≤ x10_1
    ·rw [if_pos c3] at H
     have c3b0 : decide (0 ≤ x10_1) = true := decide_eq_true c3
     clear c3
     by_cases c4 : x10_1 < (l0.length : Int)
     ·rw [if_pos c4] at H
      have c4b0 : decide (x10_1 < (l0.length : Int)) = true := decide_eq_true c4
      clear c4
      have HC5 := am_ H
      clear H
      have p367 : 0 ≤ (x10_1 : Int) := of_decide_eq_true (by first | (with_reducible assumption) | assumption)
      have q367 : x10_1 < (l0.length : Int) := of_decide_eq_true (by first | (with_reducible assumption) | assumption)
      obtain ⟨ad367, e367, hx367_0, hx367_1, hx367_2⟩ := at_T85 HR0.out x10_1 p367 q367
      cases e367
      replace hx367_0 := (HB.out.cell (World.block_lt_of_cell? w _ hx367_0)).trans hx367_0
      replace hx367_1 := (HB.out.cell (World.block_lt_of_cell? w _ hx367_1)).trans hx367_1
      replace hx367_2 := (HB.out.cell (World.block_lt_of_cell? w _ hx367_2)).trans hx367_2
      replace p367 := eq_true p367
      replace q367 := eq_true q367
      go_upto_region 5 with (first | ((with_reducible refine gate_dst (N := 6) rfl ?_); (try (refine gate_guard (by rfl) ?_; dsimp only)); refine box_event ?hg (N := 6) ?hd (cs := #[.int .i64 0, .int .i64 0, .int .i64 0]) (t := 85) ?hr ?_; (case hd => rfl); (case hg => rfl); (case hr => first | (go_simp; done) | (go_simp; rfl)); intro gb368 hg w6 hbox hb; have n0_ := am_ (below_step z77_3 hb); have n1_ := am_ (hbox); have n2_ := am_ (by rw [hg]; exact (below_size z77_3) : w.heap.size ≤ gb368); have n3_ := am_ (by rw [hg]; exact (below_size z77_3) : w.heap.size ≤ gb368); clear HB; have HB := n0_; have BK368 := n1_; have GW368 := n2_; have GE368 := n3_; clear n0_ n1_ n2_ n3_; clear hb hbox hg; have hcz7_0 : w6.cell? ⟨gb368, 0, none⟩ = some (.int .i64 0) := (blk_cell BK368.out 0).trans rfl; have hcz7_1 : w6.cell? ⟨gb368, 1, none⟩ = some (.int .i64 0) := (blk_cell BK368.out 1).trans rfl; have hcz7_2 : w6.cell? ⟨gb368, 2, none⟩ = some (.int .i64 0) := (blk_cell BK368.out 2).trans rfl; have hfz7_0 := blk_frozen BK368.out 0; have hfz7_1 := blk_frozen BK368.out 1; have hfz7_2 := blk_frozen BK368.out 2))
      (try simp only [Act.put, List.setIfInBounds_toArray, List.set_cons_zero, List.set_cons_succ])
      go_cut [7] (fun v7 wc => ∃ (kq : Nat) (x7_4 : Bool), v7 = .bool x7_4 ∧ Aside0 (impl_threadOk.j1 kq l0 x3_1 x4_1 x7_4 l0 (l0.length : Int) x10_1 ((rd_T85 l0 x10_1).f0) ((rd_T85 l0 x10_1).f1) ((rd_T85 l0 x10_1).f2) = some r) ∧ Aside0 (kq ≤ k1) ∧ Aside0 (wc.heap[gb368]? = some (.cells #[.int .i64 ((rd_T85 l0 x10_1).f0), .int .i64 ((rd_T85 l0 x10_1).f1), .int .i64 ((rd_T85 l0 x10_1).f2)] 85 (0, 0))) ∧ Aside0 (Below w.heap.size w wc))
      case first =>
       have H := HC5.out
       clear HC5
       by_cases c8 : ((rd_T85 l0 x10_1).f0) = 3
       ·rw [if_pos c8] at H
        have c8b0 : (((rd_T85 l0 x10_1).f0) == 3) = true := beq_iff_eq.mpr c8
        have c8b1 : (((rd_T85 l0 x10_1).f0) != 3) = false := bne_eq_false_iff_eq.mpr c8
        clear c8
        (first | rw [c8b0] | (simp only [i64_w, i32_w]; rw [c8b0]) | skip)
        by_cases c9 : x3_1 = true
        ·subst c9
         have H1 : (if x4_1 = true then (if ((rd_T85 l0 x10_1).f0) = 7 then (impl_threadOk.j1 k1 l0 true x4_1 true l0 (l0.length : Int) x10_1 ((rd_T85 l0 x10_1).f0) ((rd_T85 l0 x10_1).f1) ((rd_T85 l0 x10_1).f2)) else (if ((rd_T85 l0 x10_1).f0) = 9 then (impl_threadOk.j1 k1 l0 true x4_1 true l0 (l0.length : Int) x10_1 ((rd_T85 l0 x10_1).f0) ((rd_T85 l0 x10_1).f1) ((rd_T85 l0 x10_1).f2)) else (impl_threadOk.j1 k1 l0 true x4_1 false l0 (l0.length : Int) x10_1 ((rd_T85 l0 x10_1).f0) ((rd_T85 l0 x10_1).f1) ((rd_T85 l0 x10_1).f2)))) else (impl_threadOk.j1 k1 l0 true x4_1 (((rd_T85 l0 x10_1).f0) == 8) l0 (l0.length : Int) x10_1 ((rd_T85 l0 x10_1).f0) ((rd_T85 l0 x10_1).f1) ((rd_T85 l0 x10_1).f2))) = some r := by rw [if_pos rfl] at H; exact H
         clear H
         have H := H1
         clear H1
         by_cases c10 : x4_1 = true
         ·subst c10
          have H1 : (if ((rd_T85 l0 x10_1).f0) = 7 then (impl_threadOk.j1 k1 l0 true true true l0 (l0.length : Int) x10_1 ((rd_T85 l0 x10_1).f0) ((rd_T85 l0 x10_1).f1) ((rd_T85 l0 x10_1).f2)) else (if ((rd_T85 l0 x10_1).f0) = 9 then (impl_threadOk.j1 k1 l0 true true true l0 (l0.length : Int) x10_1 ((rd_T85 l0 x10_1).f0) ((rd_T85 l0 x10_1).f1) ((rd_T85 l0 x10_1).f2)) else (impl_threadOk.j1 k1 l0 true true false l0 (l0.length : Int) x10_1 ((rd_T85 l0 x10_1).f0) ((rd_T85 l0 x10_1).f1) ((rd_T85 l0 x10_1).f2)))) = some r := by rw [if_pos rfl] at H; exact H
          clear H
          have H := H1
          clear H1
          by_cases c11 : ((rd_T85 l0 x10_1).f0) = 7
          ·rw [if_pos c11] at H
           have c11b0 : (((rd_T85 l0 x10_1).f0) == 7) = true := beq_iff_eq.mpr c11
           have c11b1 : (((rd_T85 l0 x10_1).f0) != 7) = false := bne_eq_false_iff_eq.mpr c11
           clear c11
           have H' := am_ H
           clear H
           have hcz12_0 : w6.cell? ⟨gb368, 0, none⟩ = some (.int .i64 0) := (blk_cell BK368.out 0).trans rfl
           have hcz12_1 : w6.cell? ⟨gb368, 1, none⟩ = some (.int .i64 0) := (blk_cell BK368.out 1).trans rfl
           have hcz12_2 : w6.cell? ⟨gb368, 2, none⟩ = some (.int .i64 0) := (blk_cell BK368.out 2).trans rfl
           have hfz12_0 := blk_frozen BK368.out 0
           have hfz12_1 := blk_frozen BK368.out 1
           have hfz12_2 := blk_frozen BK368.out 2
           go_wp2
           go_meet
           case rel => exact ⟨_, (true), z77_1, H', ⟨by have := HK1.out; first | omega | exact Nat.le_refl _⟩, ⟨z77_5⟩, ⟨z77_4⟩⟩
          ·rw [if_neg c11] at H
           have c11b0 : (((rd_T85 l0 x10_1).f0) == 7) = false := beq_eq_false_iff_ne.mpr c11
           have c11b1 : (((rd_T85 l0 x10_1).f0) != 7) = true := bne_iff_ne.mpr c11
           by_cases c13 : ((rd_T85 l0 x10_1).f0) = 9
           ·rw [if_pos c13] at H
            have c13b0 : (((rd_T85 l0 x10_1).f0) == 9) = true := beq_iff_eq.mpr c13
            have c13b1 : (((rd_T85 l0 x10_1).f0) != 9) = false := bne_eq_false_iff_eq.mpr c13
            clear c13
            have H' := am_ H
            clear H
            have hcz14_0 : w6.cell? ⟨gb368, 0, none⟩ = some (.int .i64 0) := (blk_cell BK368.out 0).trans rfl
            have hcz14_1 : w6.cell? ⟨gb368, 1, none⟩ = some (.int .i64 0) := (blk_cell BK368.out 1).trans rfl
            have hcz14_2 : w6.cell? ⟨gb368, 2, none⟩ = some (.int .i64 0) := (blk_cell BK368.out 2).trans rfl
            have hfz14_0 := blk_frozen BK368.out 0
            have hfz14_1 := blk_frozen BK368.out 1
            have hfz14_2 := blk_frozen BK368.out 2
            go_wp2
            go_meet
            case rel => exact ⟨_, (true), z77_1, H', ⟨by have := HK1.out; first | omega | exact Nat.le_refl _⟩, ⟨z77_5⟩, ⟨z77_4⟩⟩
           ·rw [if_neg c13] at H
            have c13b0 : (((rd_T85 l0 x10_1).f0) == 9) = false := beq_eq_false_iff_ne.mpr c13
            have c13b1 : (((rd_T85 l0 x10_1).f0) != 9) = true := bne_iff_ne.mpr c13
            have H' := am_ H
            clear H
            have hcz15_0 : w6.cell? ⟨gb368, 0, none⟩ = some (.int .i64 0) := (blk_cell BK368.out 0).trans rfl
            have hcz15_1 : w6.cell? ⟨gb368, 1, none⟩ = some (.int .i64 0) := (blk_cell BK368.out 1).trans rfl
            have hcz15_2 : w6.cell? ⟨gb368, 2, none⟩ = some (.int .i64 0) := (blk_cell BK368.out 2).trans rfl
            have hfz15_0 := blk_frozen BK368.out 0
            have hfz15_1 := blk_frozen BK368.out 1
            have hfz15_2 := blk_frozen BK368.out 2
            go_wp2
            go_meet
            case rel => exact ⟨_, (false), z77_1, H', ⟨by have := HK1.out; first | omega | exact Nat.le_refl _⟩, ⟨z77_5⟩, ⟨z77_4⟩⟩
         ·replace c10 := Bool.eq_false_iff.mpr c10
          subst c10
          have H1 : (impl_threadOk.j1 k1 l0 true false (((rd_T85 l0 x10_1).f0) == 8) l0 (l0.length : Int) x10_1 ((rd_T85 l0 x10_1).f0) ((rd_T85 l0 x10_1).f1) ((rd_T85 l0 x10_1).f2)) = some r := by rw [if_neg (show ¬ (false = true) by decide)] at H; exact H
          clear H
          have H := H1
          clear H1
          have H' := am_ H
          clear H
          have hcz16_0 : w6.cell? ⟨gb368, 0, none⟩ = some (.int .i64 0) := (blk_cell BK368.out 0).trans rfl
          have hcz16_1 : w6.cell? ⟨gb368, 1, none⟩ = some (.int .i64 0) := (blk_cell BK368.out 1).trans rfl
          have hcz16_2 : w6.cell? ⟨gb368, 2, none⟩ = some (.int .i64 0) := (blk_cell BK368.out 2).trans rfl
          have hfz16_0 := blk_frozen BK368.out 0
          have hfz16_1 := blk_frozen BK368.out 1
          have hfz16_2 := blk_frozen BK368.out 2
          go_wp2
          go_meet
          case rel => exact ⟨_, ((((rd_T85 l0 x10_1).f0) == 8)), z77_1, H', ⟨by have := HK1.out; first | omega | exact Nat.le_refl _⟩, ⟨z77_5⟩, ⟨z77_4⟩⟩
        ·replace c9 := Bool.eq_false_iff.mpr c9
         subst c9
         have H1 : (impl_threadOk.j1 k1 l0 false x4_1 true l0 (l0.length : Int) x10_1 ((rd_T85 l0 x10_1).f0) ((rd_T85 l0 x10_1).f1) ((rd_T85 l0 x10_1).f2)) = some r := by rw [if_neg (show ¬ (false = true) by decide)] at H; exact H
         clear H
         have H := H1
         clear H1
         have H' := am_ H
         clear H
         have hcz17_0 : w6.cell? ⟨gb368, 0, none⟩ = some (.int .i64 0) := (blk_cell BK368.out 0).trans rfl
         have hcz17_1 : w6.cell? ⟨gb368, 1, none⟩ = some (.int .i64 0) := (blk_cell BK368.out 1).trans rfl
         have hcz17_2 : w6.cell? ⟨gb368, 2, none⟩ = some (.int .i64 0) := (blk_cell BK368.out 2).trans rfl
         have hfz17_0 := blk_frozen BK368.out 0
         have hfz17_1 := blk_frozen BK368.out 1
         have hfz17_2 := blk_frozen BK368.out 2
         go_wp2
         go_meet
         case rel => exact ⟨_, (true), z77_1, H', ⟨by have := HK1.out; first | omega | exact Nat.le_refl _⟩, ⟨z77_5⟩, ⟨z77_4⟩⟩
       ·rw [if_neg c8] at H
        have c8b0 : (((rd_T85 l0 x10_1).f0) == 3) = false := beq_eq_false_iff_ne.mpr c8
        have c8b1 : (((rd_T85 l0 x10_1).f0) != 3) = true := bne_iff_ne.mpr c8
        (first | rw [c8b0] | (simp only [i64_w, i32_w]; rw [c8b0]) | skip)
        by_cases c18 : x4_1 = true
        ·subst c18
         have H1 : (if ((rd_T85 l0 x10_1).f0) = 7 then (impl_threadOk.j1 k1 l0 x3_1 true true l0 (l0.length : Int) x10_1 ((rd_T85 l0 x10_1).f0) ((rd_T85 l0 x10_1).f1) ((rd_T85 l0 x10_1).f2)) else (if ((rd_T85 l0 x10_1).f0) = 9 then (impl_threadOk.j1 k1 l0 x3_1 true true l0 (l0.length : Int) x10_1 ((rd_T85 l0 x10_1).f0) ((rd_T85 l0 x10_1).f1) ((rd_T85 l0 x10_1).f2)) else (impl_threadOk.j1 k1 l0 x3_1 true false l0 (l0.length : Int) x10_1 ((rd_T85 l0 x10_1).f0) ((rd_T85 l0 x10_1).f1) ((rd_T85 l0 x10_1).f2)))) = some r := by rw [if_pos rfl] at H; exact H
         clear H
         have H := H1
         clear H1
         by_cases c19 : ((rd_T85 l0 x10_1).f0) = 7
         ·rw [if_pos c19] at H
          have c19b0 : (((rd_T85 l0 x10_1).f0) == 7) = true := beq_iff_eq.mpr c19
          have c19b1 : (((rd_T85 l0 x10_1).f0) != 7) = false := bne_eq_false_iff_eq.mpr c19
          clear c19
          have H' := am_ H
          clear H
          have hcz20_0 : w6.cell? ⟨gb368, 0, none⟩ = some (.int .i64 0) := (blk_cell BK368.out 0).trans rfl
          have hcz20_1 : w6.cell? ⟨gb368, 1, none⟩ = some (.int .i64 0) := (blk_cell BK368.out 1).trans rfl
          have hcz20_2 : w6.cell? ⟨gb368, 2, none⟩ = some (.int .i64 0) := (blk_cell BK368.out 2).trans rfl
          have hfz20_0 := blk_frozen BK368.out 0
          have hfz20_1 := blk_frozen BK368.out 1
          have hfz20_2 := blk_frozen BK368.out 2
          go_wp2
          go_meet
          case rel => exact ⟨_, (true), z77_1, H', ⟨by have := HK1.out; first | omega | exact Nat.le_refl _⟩, ⟨z77_5⟩, ⟨z77_4⟩⟩
         ·rw [if_neg c19] at H
          have c19b0 : (((rd_T85 l0 x10_1).f0) == 7) = false := beq_eq_false_iff_ne.mpr c19
          have c19b1 : (((rd_T85 l0 x10_1).f0) != 7) = true := bne_iff_ne.mpr c19
          by_cases c21 : ((rd_T85 l0 x10_1).f0) = 9
          ·rw [if_pos c21] at H
           have c21b0 : (((rd_T85 l0 x10_1).f0) == 9) = true := beq_iff_eq.mpr c21
           have c21b1 : (((rd_T85 l0 x10_1).f0) != 9) = false := bne_eq_false_iff_eq.mpr c21
           clear c21
           have H' := am_ H
           clear H
           have hcz22_0 : w6.cell? ⟨gb368, 0, none⟩ = some (.int .i64 0) := (blk_cell BK368.out 0).trans rfl
           have hcz22_1 : w6.cell? ⟨gb368, 1, none⟩ = some (.int .i64 0) := (blk_cell BK368.out 1).trans rfl
           have hcz22_2 : w6.cell? ⟨gb368, 2, none⟩ = some (.int .i64 0) := (blk_cell BK368.out 2).trans rfl
           have hfz22_0 := blk_frozen BK368.out 0
           have hfz22_1 := blk_frozen BK368.out 1
           have hfz22_2 := blk_frozen BK368.out 2
           go_wp2
           go_meet
           case rel => exact ⟨_, (true), z77_1, H', ⟨by have := HK1.out; first | omega | exact Nat.le_refl _⟩, ⟨z77_5⟩, ⟨z77_4⟩⟩
          ·rw [if_neg c21] at H
           have c21b0 : (((rd_T85 l0 x10_1).f0) == 9) = false := beq_eq_false_iff_ne.mpr c21
           have c21b1 : (((rd_T85 l0 x10_1).f0) != 9) = true := bne_iff_ne.mpr c21
           have H' := am_ H
           clear H
           have hcz23_0 : w6.cell? ⟨gb368, 0, none⟩ = some (.int .i64 0) := (blk_cell BK368.out 0).trans rfl
           have hcz23_1 : w6.cell? ⟨gb368, 1, none⟩ = some (.int .i64 0) := (blk_cell BK368.out 1).trans rfl
           have hcz23_2 : w6.cell? ⟨gb368, 2, none⟩ = some (.int .i64 0) := (blk_cell BK368.out 2).trans rfl
           have hfz23_0 := blk_frozen BK368.out 0
           have hfz23_1 := blk_frozen BK368.out 1
           have hfz23_2 := blk_frozen BK368.out 2
           go_wp2
           go_meet
           case rel => exact ⟨_, (false), z77_1, H', ⟨by have := HK1.out; first | omega | exact Nat.le_refl _⟩, ⟨z77_5⟩, ⟨z77_4⟩⟩
        ·replace c18 := Bool.eq_false_iff.mpr c18
         subst c18
         have H1 : (impl_threadOk.j1 k1 l0 x3_1 false (((rd_T85 l0 x10_1).f0) == 8) l0 (l0.length : Int) x10_1 ((rd_T85 l0 x10_1).f0) ((rd_T85 l0 x10_1).f1) ((rd_T85 l0 x10_1).f2)) = some r := by rw [if_neg (show ¬ (false = true) by decide)] at H; exact H
         clear H
         have H := H1
         clear H1
         have H' := am_ H
         clear H
         have hcz24_0 : w6.cell? ⟨gb368, 0, none⟩ = some (.int .i64 0) := (blk_cell BK368.out 0).trans rfl
         have hcz24_1 : w6.cell? ⟨gb368, 1, none⟩ = some (.int .i64 0) := (blk_cell BK368.out 1).trans rfl
         have hcz24_2 : w6.cell? ⟨gb368, 2, none⟩ = some (.int .i64 0) := (blk_cell BK368.out 2).trans rfl
         have hfz24_0 := blk_frozen BK368.out 0
         have hfz24_1 := blk_frozen BK368.out 1
         have hfz24_2 := blk_frozen BK368.out 2
         go_wp2
         go_meet
         case rel => exact ⟨_, ((((rd_T85 l0 x10_1).f0) == 8)), z77_1, H', ⟨by have := HK1.out; first | omega | exact Nat.le_refl _⟩, ⟨z77_5⟩, ⟨z77_4⟩⟩
      case rest =>
       clear HC5
       obtain ⟨kq, x7_4, rfl, HA, HJ4, BK368, HB⟩ := hcut
       cases kq with
       | zero => exact absurd HA.out (by simp [impl_threadOk.j1])
       | succ kj4 =>
        have H := HA.out
        clear HA
        simp only [impl_threadOk.j1] at H
        replace H := Option.bind_eq_some_iff.mp H
        obtain ⟨t369, A250, H⟩ := H
        replace H : (if t369 = true then (if x7_4 = true then (some false) else (if x3_1 = true then (if ((rd_T85 l0 x10_1).f0) = 7 then (impl_threadOk.l0 kj4 l0 true true l0 (l0.length : Int) (wrap64 (x10_1 + 1))) else (if x4_1 = true then (impl_threadOk.l0 kj4 l0 true (((rd_T85 l0 x10_1).f0) != 8) l0 (l0.length : Int) (wrap64 (x10_1 + 1))) else (impl_threadOk.l0 kj4 l0 true false l0 (l0.length : Int) (wrap64 (x10_1 + 1))))) else ((impl_Do_reads.f ((rd_T85 l0 x10_1).f0) ((rd_T85 l0 x10_1).f1) ((rd_T85 l0 x10_1).f2)).bind fun t370 => (if ((rd_T85 l0 x10_1).f0) = 7 then (impl_threadOk.l0 kj4 l0 t370 true l0 (l0.length : Int) (wrap64 (x10_1 + 1))) else (if x4_1 = true then (impl_threadOk.l0 kj4 l0 t370 (((rd_T85 l0 x10_1).f0) != 8) l0 (l0.length : Int) (wrap64 (x10_1 + 1))) else (impl_threadOk.l0 kj4 l0 t370 false l0 (l0.length : Int) (wrap64 (x10_1 + 1)))))))) else (some false)) = some r := H
        have A25 := am_ A250
        clear A250
        by_cases c26 : t369 = true
        ·subst c26
         have H1 : (if x7_4 = true then (some false) else (if x3_1 = true then (if ((rd_T85 l0 x10_1).f0) = 7 then (impl_threadOk.l0 kj4 l0 true true l0 (l0.length : Int) (wrap64 (x10_1 + 1))) else (if x4_1 = true then (impl_threadOk.l0 kj4 l0 true (((rd_T85 l0 x10_1).f0) != 8) l0 (l0.length : Int) (wrap64 (x10_1 + 1))) else (impl_threadOk.l0 kj4 l0 true false l0 (l0.length : Int) (wrap64 (x10_1 + 1))))) else ((impl_Do_reads.f ((rd_T85 l0 x10_1).f0) ((rd_T85 l0 x10_1).f1) ((rd_T85 l0 x10_1).f2)).bind fun t370 => (if ((rd_T85 l0 x10_1).f0) = 7 then (impl_threadOk.l0 kj4 l0 t370 true l0 (l0.length : Int) (wrap64 (x10_1 + 1))) else (if x4_1 = true then (impl_threadOk.l0 kj4 l0 t370 (((rd_T85 l0 x10_1).f0) != 8) l0 (l0.length : Int) (wrap64 (x10_1 + 1))) else (impl_threadOk.l0 kj4 l0 t370 false l0 (l0.length : Int) (wrap64 (x10_1 + 1)))))))) = some r := by rw [if_pos rfl] at H; exact H
         clear H
         have H := H1
         clear H1
         by_cases c27 : x7_4 = true
         ·subst c27
          have H1 : (some false) = some r := by rw [if_pos rfl] at H; exact H
          clear H
          have H := H1
          clear H1
          obtain rfl := Option.some.inj H
          have hcz28_0 : wc.cell? ⟨gb368, 0, none⟩ = some (.int .i64 ((rd_T85 l0 x10_1).f0)) := (blk_cell BK368.out 0).trans rfl
          have hcz28_1 : wc.cell? ⟨gb368, 1, none⟩ = some (.int .i64 ((rd_T85 l0 x10_1).f1)) := (blk_cell BK368.out 1).trans rfl
          have hcz28_2 : wc.cell? ⟨gb368, 2, none⟩ = some (.int .i64 ((rd_T85 l0 x10_1).f2)) := (blk_cell BK368.out 2).trans rfl
          have hfz28_0 := blk_frozen BK368.out 0
          have hfz28_1 := blk_frozen BK368.out 1
          have hfz28_2 := blk_frozen BK368.out 2
          go_wp2_with (first | ((with_reducible refine gate_callee (f := 116) rfl ?_); refine goesL_ (some 44) rfl rfl Try.func116 (by kernel_rfl) rfl #[.agg #[.int .i64 ((rd_T85 l0 x10_1).f0), .int .i64 ((rd_T85 l0 x10_1).f1), .int .i64 ((rd_T85 l0 x10_1).f2)]] rfl (by (try simp only [List.map_toArray, List.map_cons, List.map_nil]); first | done | rfl | (simp only [List.length_drop, List.length_take]; rfl)) ?_; (with_reducible refine (impl_Do_formed.calls kj4 ((rd_T85 l0 x10_1).f0) ((rd_T85 l0 x10_1).f1) ((rd_T85 l0 x10_1).f2) true _ A25.out).mono ?_); rintro e w29 ⟨rfl, hb⟩; refine ⟨_, rfl, ?_⟩; have n0_ := am_ (blk_below (bu BK368.out) hb); have n1_ := am_ (below_step z77_4 hb); clear BK368 HB; have BK368 := n0_; have HB := n1_; clear n0_ n1_; (try clear hb); (try clear hb2); (try clear hk); (try clear hi)))
          go_ret
          exact ⟨z77_2, z77_4⟩
         ·replace c27 := Bool.eq_false_iff.mpr c27
          subst c27
          have H1 : (if x3_1 = true then (if ((rd_T85 l0 x10_1).f0) = 7 then (impl_threadOk.l0 kj4 l0 true true l0 (l0.length : Int) (wrap64 (x10_1 + 1))) else (if x4_1 = true then (impl_threadOk.l0 kj4 l0 true (((rd_T85 l0 x10_1).f0) != 8) l0 (l0.length : Int) (wrap64 (x10_1 + 1))) else (impl_threadOk.l0 kj4 l0 true false l0 (l0.length : Int) (wrap64 (x10_1 + 1))))) else ((impl_Do_reads.f ((rd_T85 l0 x10_1).f0) ((rd_T85 l0 x10_1).f1) ((rd_T85 l0 x10_1).f2)).bind fun t370 => (if ((rd_T85 l0 x10_1).f0) = 7 then (impl_threadOk.l0 kj4 l0 t370 true l0 (l0.length : Int) (wrap64 (x10_1 + 1))) else (if x4_1 = true then (impl_threadOk.l0 kj4 l0 t370 (((rd_T85 l0 x10_1).f0) != 8) l0 (l0.length : Int) (wrap64 (x10_1 + 1))) else (impl_threadOk.l0 kj4 l0 t370 false l0 (l0.length : Int) (wrap64 (x10_1 + 1))))))) = some r := by rw [if_neg (show ¬ (false = true) by decide)] at H; exact H
          clear H
          have H := H1
          clear H1
          by_cases c30 : x3_1 = true
          ·subst c30
           have H1 : (if ((rd_T85 l0 x10_1).f0) = 7 then (impl_threadOk.l0 kj4 l0 true true l0 (l0.length : Int) (wrap64 (x10_1 + 1))) else (if x4_1 = true then (impl_threadOk.l0 kj4 l0 true (((rd_T85 l0 x10_1).f0) != 8) l0 (l0.length : Int) (wrap64 (x10_1 + 1))) else (impl_threadOk.l0 kj4 l0 true false l0 (l0.length : Int) (wrap64 (x10_1 + 1))))) = some r := by rw [if_pos rfl] at H; exact H
           clear H
           have H := H1
           clear H1
           by_cases c31 : ((rd_T85 l0 x10_1).f0) = 7
           ·rw [if_pos c31] at H
            have c31b0 : (((rd_T85 l0 x10_1).f0) == 7) = true := beq_iff_eq.mpr c31
            have c31b1 : (((rd_T85 l0 x10_1).f0) != 7) = false := bne_eq_false_iff_eq.mpr c31
            clear c31
            have H' := am_ H
            clear H
            have hcz32_0 : wc.cell? ⟨gb368, 0, none⟩ = some (.int .i64 ((rd_T85 l0 x10_1).f0)) := (blk_cell BK368.out 0).trans rfl
            have hcz32_1 : wc.cell? ⟨gb368, 1, none⟩ = some (.int .i64 ((rd_T85 l0 x10_1).f1)) := (blk_cell BK368.out 1).trans rfl
            have hcz32_2 : wc.cell? ⟨gb368, 2, none⟩ = some (.int .i64 ((rd_T85 l0 x10_1).f2)) := (blk_cell BK368.out 2).trans rfl
            have hfz32_0 := blk_frozen BK368.out 0
            have hfz32_1 := blk_frozen BK368.out 1
            have hfz32_2 := blk_frozen BK368.out 2
            go_wp2_with (first | ((with_reducible refine gate_callee (f := 116) rfl ?_); refine goesL_ (some 44) rfl rfl Try.func116 (by kernel_rfl) rfl #[.agg #[.int .i64 ((rd_T85 l0 x10_1).f0), .int .i64 ((rd_T85 l0 x10_1).f1), .int .i64 ((rd_T85 l0 x10_1).f2)]] rfl (by (try simp only [List.map_toArray, List.map_cons, List.map_nil]); first | done | rfl | (simp only [List.length_drop, List.length_take]; rfl)) ?_; (with_reducible refine (impl_Do_formed.calls kj4 ((rd_T85 l0 x10_1).f0) ((rd_T85 l0 x10_1).f1) ((rd_T85 l0 x10_1).f2) true _ A25.out).mono ?_); rintro e w33 ⟨rfl, hb⟩; refine ⟨_, rfl, ?_⟩; have n0_ := am_ (blk_below (bu BK368.out) hb); have n1_ := am_ (below_step z77_4 hb); clear BK368 HB; have BK368 := n0_; have HB := n1_; clear n0_ n1_; (try clear hb); (try clear hb2); (try clear hk); (try clear hi); have hcz34_0 : w33.cell? ⟨gb368, 0, none⟩ = some (.int .i64 ((rd_T85 l0 x10_1).f0)) := (blk_cell BK368.out 0).trans rfl; have hcz34_1 : w33.cell? ⟨gb368, 1, none⟩ = some (.int .i64 ((rd_T85 l0 x10_1).f1)) := (blk_cell BK368.out 1).trans rfl; have hcz34_2 : w33.cell? ⟨gb368, 2, none⟩ = some (.int .i64 ((rd_T85 l0 x10_1).f2)) := (blk_cell BK368.out 2).trans rfl; have hfz34_0 := blk_frozen BK368.out 0; have hfz34_1 := blk_frozen BK368.out 1; have hfz34_2 := blk_frozen BK368.out 2))
            go_roundg kj4
            case measure => have := HK1.out; have := HJ4.out; omega
            case rel => exact ⟨(true), (true), (wrap64 (x10_1 + 1)), z77_1, z77_1, z77_1, H', ⟨by have := HK1.out; have := HJ4.out; omega⟩, ⟨z77_4⟩⟩
           ·rw [if_neg c31] at H
            have c31b0 : (((rd_T85 l0 x10_1).f0) == 7) = false := beq_eq_false_iff_ne.mpr c31
            have c31b1 : (((rd_T85 l0 x10_1).f0) != 7) = true := bne_iff_ne.mpr c31
            by_cases c35 : x4_1 = true
            ·subst c35
             have H1 : (impl_threadOk.l0 kj4 l0 true (((rd_T85 l0 x10_1).f0) != 8) l0 (l0.length : Int) (wrap64 (x10_1 + 1))) = some r := by rw [if_pos rfl] at H; exact H
             clear H
             have H := H1
             clear H1
             have H' := am_ H
             clear H
             have hcz36_0 : wc.cell? ⟨gb368, 0, none⟩ = some (.int .i64 ((rd_T85 l0 x10_1).f0)) := (blk_cell BK368.out 0).trans rfl
             have hcz36_1 : wc.cell? ⟨gb368, 1, none⟩ = some (.int .i64 ((rd_T85 l0 x10_1).f1)) := (blk_cell BK368.out 1).trans rfl
             have hcz36_2 : wc.cell? ⟨gb368, 2, none⟩ = some (.int .i64 ((rd_T85 l0 x10_1).f2)) := (blk_cell BK368.out 2).trans rfl
             have hfz36_0 := blk_frozen BK368.out 0
             have hfz36_1 := blk_frozen BK368.out 1
             have hfz36_2 := blk_frozen BK368.out 2
             go_wp2_with (first | ((with_reducible refine gate_callee (f := 116) rfl ?_); refine goesL_ (some 44) rfl rfl Try.func116 (by kernel_rfl) rfl #[.agg #[.int .i64 ((rd_T85 l0 x10_1).f0), .int .i64 ((rd_T85 l0 x10_1).f1), .int .i64 ((rd_T85 l0 x10_1).f2)]] rfl (by (try simp only [List.map_toArray, List.map_cons, List.map_nil]); first | done | rfl | (simp only [List.length_drop, List.length_take]; rfl)) ?_; (with_reducible refine (impl_Do_formed.calls kj4 ((rd_T85 l0 x10_1).f0) ((rd_T85 l0 x10_1).f1) ((rd_T85 l0 x10_1).f2) true _ A25.out).mono ?_); rintro e w37 ⟨rfl, hb⟩; refine ⟨_, rfl, ?_⟩; have n0_ := am_ (blk_below (bu BK368.out) hb); have n1_ := am_ (below_step z77_4 hb); clear BK368 HB; have BK368 := n0_; have HB := n1_; clear n0_ n1_; (try clear hb); (try clear hb2); (try clear hk); (try clear hi); have hcz38_0 : w37.cell? ⟨gb368, 0, none⟩ = some (.int .i64 ((rd_T85 l0 x10_1).f0)) := (blk_cell BK368.out 0).trans rfl; have hcz38_1 : w37.cell? ⟨gb368, 1, none⟩ = some (.int .i64 ((rd_T85 l0 x10_1).f1)) := (blk_cell BK368.out 1).trans rfl; have hcz38_2 : w37.cell? ⟨gb368, 2, none⟩ = some (.int .i64 ((rd_T85 l0 x10_1).f2)) := (blk_cell BK368.out 2).trans rfl; have hfz38_0 := blk_frozen BK368.out 0; have hfz38_1 := blk_frozen BK368.out 1; have hfz38_2 := blk_frozen BK368.out 2))
             go_roundg kj4
             case measure => have := HK1.out; have := HJ4.out; omega
             case rel => exact ⟨(true), ((((rd_T85 l0 x10_1).f0) != 8)), (wrap64 (x10_1 + 1)), z77_1, z77_1, z77_1, H', ⟨by have := HK1.out; have := HJ4.out; omega⟩, ⟨z77_4⟩⟩
            ·replace c35 := Bool.eq_false_iff.mpr c35
             subst c35
             have H1 : (impl_threadOk.l0 kj4 l0 true false l0 (l0.length : Int) (wrap64 (x10_1 + 1))) = some r := by rw [if_neg (show ¬ (false = true) by decide)] at H; exact H
             clear H
             have H := H1
             clear H1
             have H' := am_ H
             clear H
             have hcz39_0 : wc.cell? ⟨gb368, 0, none⟩ = some (.int .i64 ((rd_T85 l0 x10_1).f0)) := (blk_cell BK368.out 0).trans rfl
             have hcz39_1 : wc.cell? ⟨gb368, 1, none⟩ = some (.int .i64 ((rd_T85 l0 x10_1).f1)) := (blk_cell BK368.out 1).trans rfl
             have hcz39_2 : wc.cell? ⟨gb368, 2, none⟩ = some (.int .i64 ((rd_T85 l0 x10_1).f2)) := (blk_cell BK368.out 2).trans rfl
             have hfz39_0 := blk_frozen BK368.out 0
             have hfz39_1 := blk_frozen BK368.out 1
             have hfz39_2 := blk_frozen BK368.out 2
             go_wp2_with (first | ((with_reducible refine gate_callee (f := 116) rfl ?_); refine goesL_ (some 44) rfl rfl Try.func116 (by kernel_rfl) rfl #[.agg #[.int .i64 ((rd_T85 l0 x10_1).f0), .int .i64 ((rd_T85 l0 x10_1).f1), .int .i64 ((rd_T85 l0 x10_1).f2)]] rfl (by (try simp only [List.map_toArray, List.map_cons, List.map_nil]); first | done | rfl | (simp only [List.length_drop, List.length_take]; rfl)) ?_; (with_reducible refine (impl_Do_formed.calls kj4 ((rd_T85 l0 x10_1).f0) ((rd_T85 l0 x10_1).f1) ((rd_T85 l0 x10_1).f2) true _ A25.out).mono ?_); rintro e w40 ⟨rfl, hb⟩; refine ⟨_, rfl, ?_⟩; have n0_ := am_ (blk_below (bu BK368.out) hb); have n1_ := am_ (below_step z77_4 hb); clear BK368 HB; have BK368 := n0_; have HB := n1_; clear n0_ n1_; (try clear hb); (try clear hb2); (try clear hk); (try clear hi); have hcz41_0 : w40.cell? ⟨gb368, 0, none⟩ = some (.int .i64 ((rd_T85 l0 x10_1).f0)) := (blk_cell BK368.out 0).trans rfl; have hcz41_1 : w40.cell? ⟨gb368, 1, none⟩ = some (.int .i64 ((rd_T85 l0 x10_1).f1)) := (blk_cell BK368.out 1).trans rfl; have hcz41_2 : w40.cell? ⟨gb368, 2, none⟩ = some (.int .i64 ((rd_T85 l0 x10_1).f2)) := (blk_cell BK368.out 2).trans rfl; have hfz41_0 := blk_frozen BK368.out 0; have hfz41_1 := blk_frozen BK368.out 1; have hfz41_2 := blk_frozen BK368.out 2))
             go_roundg kj4
             case measure => have := HK1.out; have := HJ4.out; omega
             case rel => exact ⟨(true), (false), (wrap64 (x10_1 + 1)), z77_1, z77_1, z77_1, H', ⟨by have := HK1.out; have := HJ4.out; omega⟩, ⟨z77_4⟩⟩
          ·replace c30 := Bool.eq_false_iff.mpr c30
           subst c30
           have H1 : ((impl_Do_reads.f ((rd_T85 l0 x10_1).f0) ((rd_T85 l0 x10_1).f1) ((rd_T85 l0 x10_1).f2)).bind fun t370 => (if ((rd_T85 l0 x10_1).f0) = 7 then (impl_threadOk.l0 kj4 l0 t370 true l0 (l0.length : Int) (wrap64 (x10_1 + 1))) else (if x4_1 = true then (impl_threadOk.l0 kj4 l0 t370 (((rd_T85 l0 x10_1).f0) != 8) l0 (l0.length : Int) (wrap64 (x10_1 + 1))) else (impl_threadOk.l0 kj4 l0 t370 false l0 (l0.length : Int) (wrap64 (x10_1 + 1)))))) = some r := by rw [if_neg (show ¬ (false = true) by decide)] at H; exact H
           clear H
           have H := H1
           clear H1
           replace H := Option.bind_eq_some_iff.mp H
           obtain ⟨t370, A420, H⟩ := H
           replace H : (if ((rd_T85 l0 x10_1).f0) = 7 then (impl_threadOk.l0 kj4 l0 t370 true l0 (l0.length : Int) (wrap64 (x10_1 + 1))) else (if x4_1 = true then (impl_threadOk.l0 kj4 l0 t370 (((rd_T85 l0 x10_1).f0) != 8) l0 (l0.length : Int) (wrap64 (x10_1 + 1))) else (impl_threadOk.l0 kj4 l0 t370 false l0 (l0.length : Int) (wrap64 (x10_1 + 1))))) = some r := H
           have A42 := am_ A420
           clear A420
           by_cases c43 : ((rd_T85 l0 x10_1).f0) = 7
           ·rw [if_pos c43] at H
            have c43b0 : (((rd_T85 l0 x10_1).f0) == 7) = true := beq_iff_eq.mpr c43
            have c43b1 : (((rd_T85 l0 x10_1).f0) != 7) = false := bne_eq_false_iff_eq.mpr c43
            clear c43
            have H' := am_ H
            clear H
            have hcz44_0 : wc.cell? ⟨gb368, 0, none⟩ = some (.int .i64 ((rd_T85 l0 x10_1).f0)) := (blk_cell BK368.out 0).trans rfl
            have hcz44_1 : wc.cell? ⟨gb368, 1, none⟩ = some (.int .i64 ((rd_T85 l0 x10_1).f1)) := (blk_cell BK368.out 1).trans rfl
            have hcz44_2 : wc.cell? ⟨gb368, 2, none⟩ = some (.int .i64 ((rd_T85 l0 x10_1).f2)) := (blk_cell BK368.out 2).trans rfl
            have hfz44_0 := blk_frozen BK368.out 0
            have hfz44_1 := blk_frozen BK368.out 1
            have hfz44_2 := blk_frozen BK368.out 2
            go_wp2_with (first | ((with_reducible refine gate_callee (f := 116) rfl ?_); refine goesL_ (some 44) rfl rfl Try.func116 (by kernel_rfl) rfl #[.agg #[.int .i64 ((rd_T85 l0 x10_1).f0), .int .i64 ((rd_T85 l0 x10_1).f1), .int .i64 ((rd_T85 l0 x10_1).f2)]] rfl (by (try simp only [List.map_toArray, List.map_cons, List.map_nil]); first | done | rfl | (simp only [List.length_drop, List.length_take]; rfl)) ?_; (with_reducible refine (impl_Do_formed.calls kj4 ((rd_T85 l0 x10_1).f0) ((rd_T85 l0 x10_1).f1) ((rd_T85 l0 x10_1).f2) true _ A25.out).mono ?_); rintro e w45 ⟨rfl, hb⟩; refine ⟨_, rfl, ?_⟩; have n0_ := am_ (blk_below (bu BK368.out) hb); have n1_ := am_ (below_step z77_4 hb); clear BK368 HB; have BK368 := n0_; have HB := n1_; clear n0_ n1_; (try clear hb); (try clear hb2); (try clear hk); (try clear hi); have hcz46_0 : w45.cell? ⟨gb368, 0, none⟩ = some (.int .i64 ((rd_T85 l0 x10_1).f0)) := (blk_cell BK368.out 0).trans rfl; have hcz46_1 : w45.cell? ⟨gb368, 1, none⟩ = some (.int .i64 ((rd_T85 l0 x10_1).f1)) := (blk_cell BK368.out 1).trans rfl; have hcz46_2 : w45.cell? ⟨gb368, 2, none⟩ = some (.int .i64 ((rd_T85 l0 x10_1).f2)) := (blk_cell BK368.out 2).trans rfl; have hfz46_0 := blk_frozen BK368.out 0; have hfz46_1 := blk_frozen BK368.out 1; have hfz46_2 := blk_frozen BK368.out 2) | (go_at_call 114; (with_reducible refine (impl_Do_reads.calls ((rd_T85 l0 x10_1).f0) ((rd_T85 l0 x10_1).f1) ((rd_T85 l0 x10_1).f2) t370 _ A42.out).mono ?_); rintro e w47 ⟨rfl, hb⟩; have n0_ := am_ (blk_below (bu BK368.out) hb); have n1_ := am_ (below_step z77_4 hb); clear BK368 HB; have BK368 := n0_; have HB := n1_; clear n0_ n1_; (try clear hb); (try clear hb2); (try clear hk); (try clear hi); have hcz48_0 : w47.cell? ⟨gb368, 0, none⟩ = some (.int .i64 ((rd_T85 l0 x10_1).f0)) := (blk_cell BK368.out 0).trans rfl; have hcz48_1 : w47.cell? ⟨gb368, 1, none⟩ = some (.int .i64 ((rd_T85 l0 x10_1).f1)) := (blk_cell BK368.out 1).trans rfl; have hcz48_2 : w47.cell? ⟨gb368, 2, none⟩ = some (.int .i64 ((rd_T85 l0 x10_1).f2)) := (blk_cell BK368.out 2).trans rfl; have hfz48_0 := blk_frozen BK368.out 0; have hfz48_1 := blk_frozen BK368.out 1; have hfz48_2 := blk_frozen BK368.out 2))
            go_roundg kj4
            case measure => have := HK1.out; have := HJ4.out; omega
            case rel => exact ⟨(t370), (true), (wrap64 (x10_1 + 1)), z77_1, z77_1, z77_1, H', ⟨by have := HK1.out; have := HJ4.out; omega⟩, ⟨z77_4⟩⟩
           ·rw [if_neg c43] at H
            have c43b0 : (((rd_T85 l0 x10_1).f0) == 7) = false := beq_eq_false_iff_ne.mpr c43
            have c43b1 : (((rd_T85 l0 x10_1).f0) != 7) = true := bne_iff_ne.mpr c43
            by_cases c49 : x4_1 = true
            ·subst c49
             have H1 : (impl_threadOk.l0 kj4 l0 t370 (((rd_T85 l0 x10_1).f0) != 8) l0 (l0.length : Int) (wrap64 (x10_1 + 1))) = some r := by rw [if_pos rfl] at H; exact H
             clear H
             have H := H1
             clear H1
             have H' := am_ H
             clear H
             have hcz50_0 : wc.cell? ⟨gb368, 0, none⟩ = some (.int .i64 ((rd_T85 l0 x10_1).f0)) := (blk_cell BK368.out 0).trans rfl
             have hcz50_1 : wc.cell? ⟨gb368, 1, none⟩ = some (.int .i64 ((rd_T85 l0 x10_1).f1)) := (blk_cell BK368.out 1).trans rfl
             have hcz50_2 : wc.cell? ⟨gb368, 2, none⟩ = some (.int .i64 ((rd_T85 l0 x10_1).f2)) := (blk_cell BK368.out 2).trans rfl
             have hfz50_0 := blk_frozen BK368.out 0
             have hfz50_1 := blk_frozen BK368.out 1
             have hfz50_2 := blk_frozen BK368.out 2
             go_wp2_with (first | ((with_reducible refine gate_callee (f := 116) rfl ?_); refine goesL_ (some 44) rfl rfl Try.func116 (by kernel_rfl) rfl #[.agg #[.int .i64 ((rd_T85 l0 x10_1).f0), .int .i64 ((rd_T85 l0 x10_1).f1), .int .i64 ((rd_T85 l0 x10_1).f2)]] rfl (by (try simp only [List.map_toArray, List.map_cons, List.map_nil]); first | done | rfl | (simp only [List.length_drop, List.length_take]; rfl)) ?_; (with_reducible refine (impl_Do_formed.calls kj4 ((rd_T85 l0 x10_1).f0) ((rd_T85 l0 x10_1).f1) ((rd_T85 l0 x10_1).f2) true _ A25.out).mono ?_); rintro e w51 ⟨rfl, hb⟩; refine ⟨_, rfl, ?_⟩; have n0_ := am_ (blk_below (bu BK368.out) hb); have n1_ := am_ (below_step z77_4 hb); clear BK368 HB; have BK368 := n0_; have HB := n1_; clear n0_ n1_; (try clear hb); (try clear hb2); (try clear hk); (try clear hi); have hcz52_0 : w51.cell? ⟨gb368, 0, none⟩ = some (.int .i64 ((rd_T85 l0 x10_1).f0)) := (blk_cell BK368.out 0).trans rfl; have hcz52_1 : w51.cell? ⟨gb368, 1, none⟩ = some (.int .i64 ((rd_T85 l0 x10_1).f1)) := (blk_cell BK368.out 1).trans rfl; have hcz52_2 : w51.cell? ⟨gb368, 2, none⟩ = some (.int .i64 ((rd_T85 l0 x10_1).f2)) := (blk_cell BK368.out 2).trans rfl; have hfz52_0 := blk_frozen BK368.out 0; have hfz52_1 := blk_frozen BK368.out 1; have hfz52_2 := blk_frozen BK368.out 2) | (go_at_call 114; (with_reducible refine (impl_Do_reads.calls ((rd_T85 l0 x10_1).f0) ((rd_T85 l0 x10_1).f1) ((rd_T85 l0 x10_1).f2) t370 _ A42.out).mono ?_); rintro e w53 ⟨rfl, hb⟩; have n0_ := am_ (blk_below (bu BK368.out) hb); have n1_ := am_ (below_step z77_4 hb); clear BK368 HB; have BK368 := n0_; have HB := n1_; clear n0_ n1_; (try clear hb); (try clear hb2); (try clear hk); (try clear hi); have hcz54_0 : w53.cell? ⟨gb368, 0, none⟩ = some (.int .i64 ((rd_T85 l0 x10_1).f0)) := (blk_cell BK368.out 0).trans rfl; have hcz54_1 : w53.cell? ⟨gb368, 1, none⟩ = some (.int .i64 ((rd_T85 l0 x10_1).f1)) := (blk_cell BK368.out 1).trans rfl; have hcz54_2 : w53.cell? ⟨gb368, 2, none⟩ = some (.int .i64 ((rd_T85 l0 x10_1).f2)) := (blk_cell BK368.out 2).trans rfl; have hfz54_0 := blk_frozen BK368.out 0; have hfz54_1 := blk_frozen BK368.out 1; have hfz54_2 := blk_frozen BK368.out 2))
             go_roundg kj4
             case measure => have := HK1.out; have := HJ4.out; omega
             case rel => exact ⟨(t370), ((((rd_T85 l0 x10_1).f0) != 8)), (wrap64 (x10_1 + 1)), z77_1, z77_1, z77_1, H', ⟨by have := HK1.out; have := HJ4.out; omega⟩, ⟨z77_4⟩⟩
            ·replace c49 := Bool.eq_false_iff.mpr c49
             subst c49
             have H1 : (impl_threadOk.l0 kj4 l0 t370 false l0 (l0.length : Int) (wrap64 (x10_1 + 1))) = some r := by rw [if_neg (show ¬ (false = true) by decide)] at H; exact H
             clear H
             have H := H1
             clear H1
             have H' := am_ H
             clear H
             have hcz55_0 : wc.cell? ⟨gb368, 0, none⟩ = some (.int .i64 ((rd_T85 l0 x10_1).f0)) := (blk_cell BK368.out 0).trans rfl
             have hcz55_1 : wc.cell? ⟨gb368, 1, none⟩ = some (.int .i64 ((rd_T85 l0 x10_1).f1)) := (blk_cell BK368.out 1).trans rfl
             have hcz55_2 : wc.cell? ⟨gb368, 2, none⟩ = some (.int .i64 ((rd_T85 l0 x10_1).f2)) := (blk_cell BK368.out 2).trans rfl
             have hfz55_0 := blk_frozen BK368.out 0
             have hfz55_1 := blk_frozen BK368.out 1
             have hfz55_2 := blk_frozen BK368.out 2
             go_wp2_with (first | ((with_reducible refine gate_callee (f := 116) rfl ?_); refine goesL_ (some 44) rfl rfl Try.func116 (by kernel_rfl) rfl #[.agg #[.int .i64 ((rd_T85 l0 x10_1).f0), .int .i64 ((rd_T85 l0 x10_1).f1), .int .i64 ((rd_T85 l0 x10_1).f2)]] rfl (by (try simp only [List.map_toArray, List.map_cons, List.map_nil]); first | done | rfl | (simp only [List.length_drop, List.length_take]; rfl)) ?_; (with_reducible refine (impl_Do_formed.calls kj4 ((rd_T85 l0 x10_1).f0) ((rd_T85 l0 x10_1).f1) ((rd_T85 l0 x10_1).f2) true _ A25.out).mono ?_); rintro e w56 ⟨rfl, hb⟩; refine ⟨_, rfl, ?_⟩; have n0_ := am_ (blk_below (bu BK368.out) hb); have n1_ := am_ (below_step z77_4 hb); clear BK368 HB; have BK368 := n0_; have HB := n1_; clear n0_ n1_; (try clear hb); (try clear hb2); (try clear hk); (try clear hi); have hcz57_0 : w56.cell? ⟨gb368, 0, none⟩ = some (.int .i64 ((rd_T85 l0 x10_1).f0)) := (blk_cell BK368.out 0).trans rfl; have hcz57_1 : w56.cell? ⟨gb368, 1, none⟩ = some (.int .i64 ((rd_T85 l0 x10_1).f1)) := (blk_cell BK368.out 1).trans rfl; have hcz57_2 : w56.cell? ⟨gb368, 2, none⟩ = some (.int .i64 ((rd_T85 l0 x10_1).f2)) := (blk_cell BK368.out 2).trans rfl; have hfz57_0 := blk_frozen BK368.out 0; have hfz57_1 := blk_frozen BK368.out 1; have hfz57_2 := blk_frozen BK368.out 2) | (go_at_call 114; (with_reducible refine (impl_Do_reads.calls ((rd_T85 l0 x10_1).f0) ((rd_T85 l0 x10_1).f1) ((rd_T85 l0 x10_1).f2) t370 _ A42.out).mono ?_); rintro e w58 ⟨rfl, hb⟩; have n0_ := am_ (blk_below (bu BK368.out) hb); have n1_ := am_ (below_step z77_4 hb); clear BK368 HB; have BK368 := n0_; have HB := n1_; clear n0_ n1_; (try clear hb); (try clear hb2); (try clear hk); (try clear hi); have hcz59_0 : w58.cell? ⟨gb368, 0, none⟩ = some (.int .i64 ((rd_T85 l0 x10_1).f0)) := (blk_cell BK368.out 0).trans rfl; have hcz59_1 : w58.cell? ⟨gb368, 1, none⟩ = some (.int .i64 ((rd_T85 l0 x10_1).f1)) := (blk_cell BK368.out 1).trans rfl; have hcz59_2 : w58.cell? ⟨gb368, 2, none⟩ = some (.int .i64 ((rd_T85 l0 x10_1).f2)) := (blk_cell BK368.out 2).trans rfl; have hfz59_0 := blk_frozen BK368.out 0; have hfz59_1 := blk_frozen BK368.out 1; have hfz59_2 := blk_frozen BK368.out 2))
             go_roundg kj4
             case measure => have := HK1.out; have := HJ4.out; omega
             case rel => exact ⟨(t370), (false), (wrap64 (x10_1 + 1)), z77_1, z77_1, z77_1, H', ⟨by have := HK1.out; have := HJ4.out; omega⟩, ⟨z77_4⟩⟩
        ·replace c26 := Bool.eq_false_iff.mpr c26
         subst c26
         have H1 : (some false) = some r := by rw [if_neg (show ¬ (false = true) by decide)] at H; exact H
         clear H
         have H := H1
         clear H1
         obtain rfl := Option.some.inj H
         have hcz60_0 : wc.cell? ⟨gb368, 0, none⟩ = some (.int .i64 ((rd_T85 l0 x10_1).f0)) := (blk_cell BK368.out 0).trans rfl
         have hcz60_1 : wc.cell? ⟨gb368, 1, none⟩ = some (.int .i64 ((rd_T85 l0 x10_1).f1)) := (blk_cell BK368.out 1).trans rfl
         have hcz60_2 : wc.cell? ⟨gb368, 2, none⟩ = some (.int .i64 ((rd_T85 l0 x10_1).f2)) := (blk_cell BK368.out 2).trans rfl
         have hfz60_0 := blk_frozen BK368.out 0
         have hfz60_1 := blk_frozen BK368.out 1
         have hfz60_2 := blk_frozen BK368.out 2
         go_wp2_with (first | ((with_reducible refine gate_callee (f := 116) rfl ?_); refine goesL_ (some 44) rfl rfl Try.func116 (by kernel_rfl) rfl #[.agg #[.int .i64 ((rd_T85 l0 x10_1).f0), .int .i64 ((rd_T85 l0 x10_1).f1), .int .i64 ((rd_T85 l0 x10_1).f2)]] rfl (by (try simp only [List.map_toArray, List.map_cons, List.map_nil]); first | done | rfl | (simp only [List.length_drop, List.length_take]; rfl)) ?_; (with_reducible refine (impl_Do_formed.calls kj4 ((rd_T85 l0 x10_1).f0) ((rd_T85 l0 x10_1).f1) ((rd_T85 l0 x10_1).f2) false _ A25.out).mono ?_); rintro e w61 ⟨rfl, hb⟩; refine ⟨_, rfl, ?_⟩; have n0_ := am_ (blk_below (bu BK368.out) hb); have n1_ := am_ (below_step z77_4 hb); clear BK368 HB; have BK368 := n0_; have HB := n1_; clear n0_ n1_; (try clear hb); (try clear hb2); (try clear hk); (try clear hi)))
         go_ret
         exact ⟨z77_2, z77_4⟩
     ·rw [if_neg c4] at H
      exact absurd H (by simp)
    ·rw [if_neg c3] at H
     exact absurd H (by simp)
   ·rw [if_neg c2] at H
    have c2b0 : decide (x10_1 < (l0.length : Int)) = false := decide_eq_false c2
    clear c2
    by_cases c62 : x4_1 = true
    ·subst c62
     have H1 : (some false) = some r := by rw [if_pos rfl] at H; exact H
     clear H
     have H := H1
     clear H1
     obtain rfl := Option.some.inj H
     go_wp2
     go_ret
     exact ⟨z77_2, z77_3⟩
    ·replace c62 := Bool.eq_false_iff.mpr c62
     subst c62
     have H1 : (some (decide ((l0.length : Int) ≤ 7))) = some r := by rw [if_neg (show ¬ (false = true) by decide)] at H; exact H
     clear H
     have H := H1
     clear H1
     obtain rfl := Option.some.inj H
     go_wp2
     go_ret
     exact ⟨z77_2, z77_3⟩

end Go.Proofs.Ytefkbmhkhpekjaa.PB

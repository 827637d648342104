-- Written by this session's wip/myprint.py (the kit's print.py, with hand-written chunks). Lean checks it.
import Derived.Test.YtefkbmhkhpekjaaPBx0
import Derived.Test.YtefkbmhkhpekjaaPBx43
namespace Go.Proofs.Ytefkbmhkhpekjaa.PB
open Go.RowKit Go.Proofs.YtefkbmhkhpekjaaW.PrintWords Go.Proofs.YtefkbmhkhpekjaaW.PrintLast Go.Proofs.YtefkbmhkhpekjaaW.PrintMore
attribute [local go_sem] max2_int min2_int max_two min_two max_three min_three max_four min_four   -- for this text's walks alone
open Go.Proofs.YtefkbmhkhpekjaaMine
set_option linter.unusedVariables false
set_option linter.unusedSimpArgs false

theorem z38_1 {p : Prop} (h : p := by first | rfl | (simp; done) | (simp [*]; done)) : p := h
theorem z38_2 {p : Prop} (h : p := by first | (with_reducible assumption) | assumption) : p := h
theorem z38_3 {p : Prop} (h : p := by first | rfl | (simp [errW_none, errW_some] <;> rfl) | (simp [*, errW_none, errW_some] <;> rfl)) : p := h
theorem z38_4 {p : Prop} (h : p := by repeat (first | (with_reducible first | exact HB.out | apply below_alloc | apply pw_below_drewN | apply below_drew1) | exact HB.out)) : p := h
theorem z38_5 {p : Prop} (h : p := by first | exact Kd.S_nil _ _ _ _ _ | exact Kd.N_nil _ _ _ _ _ | exact Kd.V_nil _ _ _ _ _ | exact Kd.Q_nil _ _ _ _ _ | exact Kd.R_nil _ _ _ _ _) : p := h
theorem z38_6 {p : Prop} (h : p := by repeat (first | (with_reducible first | exact HB.out | apply below_alloc | apply pw_below_drewN | apply below_drew1 | refine below_set ?_ GE582.out) | exact HB.out)) : p := h
theorem z38_7 {p : Prop} (h : p := by repeat (first | (with_reducible first | exact HB.out | apply below_alloc | apply pw_below_drewN | apply below_drew1 | refine below_set ?_ GE582.out | refine below_set ?_ GE583.out) | exact HB.out)) : p := h
theorem z38_8 {p : Prop} (h : p := by repeat (first | (with_reducible first | exact HB.out | apply below_alloc | apply pw_below_drewN | apply below_drew1 | refine below_set ?_ GE582.out | refine below_set ?_ GE583.out | refine below_set ?_ GE584.out) | exact HB.out)) : p := h
theorem z38_9 {p : Prop} (h : p := by (with_reducible repeat (first | refine blk_drewN ?_ _ | refine blk_drew ?_ | refine blk_alloc ?_ _)); refine blk_far ?_ NB582_587.out _; (with_reducible repeat (first | refine blk_drewN ?_ _ | refine blk_drew ?_ | refine blk_alloc ?_ _)); exact BK582.out) : p := h
theorem z38_10 {p : Prop} (h : p := by (with_reducible repeat (first | refine blk_drewN ?_ _ | refine blk_drew ?_ | refine blk_alloc ?_ _)); refine blk_far ?_ NB583_587.out _; (with_reducible repeat (first | refine blk_drewN ?_ _ | refine blk_drew ?_ | refine blk_alloc ?_ _)); exact BK583.out) : p := h
theorem z38_11 {p : Prop} (h : p := by (with_reducible repeat (first | refine blk_drewN ?_ _ | refine blk_drew ?_ | refine blk_alloc ?_ _)); refine blk_far ?_ NB584_587.out _; (with_reducible repeat (first | refine blk_drewN ?_ _ | refine blk_drew ?_ | refine blk_alloc ?_ _)); exact BK584.out) : p := h
theorem z38_12 {p : Prop} (h : p := by repeat (first | (with_reducible first | exact HB.out | apply below_alloc | apply pw_below_drewN | apply below_drew1 | refine below_set ?_ GE582.out | refine below_set ?_ GE583.out | refine below_set ?_ GE584.out | refine below_set ?_ GE587.out) | exact HB.out)) : p := h
theorem z38_13 {p : Prop} (h : p := by (with_reducible repeat (first | refine blk_drewN ?_ _ | refine blk_drew ?_ | refine blk_alloc ?_ _)); refine blk_put (cs := #[u588000]) ?_ 0 _ rfl; (with_reducible repeat (first | refine blk_drewN ?_ _ | refine blk_drew ?_ | refine blk_alloc ?_ _)); exact BK587.out) : p := h
theorem z38_14 {p : Prop} (h : p := by (with_reducible repeat (first | refine blk_drewN ?_ _ | refine blk_drew ?_ | refine blk_alloc ?_ _)); refine blk_put (cs := #[.slice none 0 0]) ?_ 0 _ rfl; (with_reducible repeat (first | refine blk_drewN ?_ _ | refine blk_drew ?_ | refine blk_alloc ?_ _)); exact BK584.out) : p := h
/-! ### spec_TurnBeside: function 38 -/
mutual
def spec_TurnBeside.j0 : Nat → Bool → List (List (S85)) → List (List (S85)) → Option ((List (List (S85))) × Bool)
  | 0, _, _, _ => none
  | k + 1, x16, x583000, x584000 => if x16 = true then (some (([] : List (List (S85))), false)) else (spec_TurnBeside.l0 k 0 x583000 x584000 ([] : List (List (S85))))
def spec_TurnBeside.l0 : Nat → Int → List (List (S85)) → List (List (S85)) → List (List (S85)) → Option ((List (List (S85))) × Bool)
  | 0, _, _, _, _ => none
  | k + 1, x7, x583000, x584000, x588000 => if x7 < (x583000.length : Int) then ((some (([] : List (S85)) : List (S85))).bind fun y588 => (if 0 ≤ x7 then (if y588.length + (rd_L7 x583000 x7).length < 5864062014805 then (if x588000.length < 5864062014805 then (spec_TurnBeside.l0 k (wrap64 (x7 + 1)) x583000 x584000 (x588000 ++ [(y588 ++ (rd_L7 x583000 x7))])) else (none)) else (none)) else (none))) else (spec_TurnBeside.l1 k 0 x584000 x588000)
def spec_TurnBeside.l1 : Nat → Int → List (List (S85)) → List (List (S85)) → Option ((List (List (S85))) × Bool)
  | 0, _, _, _ => none
  | k + 1, x8, x584000, x588000 => if x8 < (x584000.length : Int) then ((some (([] : List (S85)) : List (S85))).bind fun y598 => (if 0 ≤ x8 then (if y598.length + (rd_L7 x584000 x8).length < 5864062014805 then (if x588000.length < 5864062014805 then (spec_TurnBeside.l1 k (wrap64 (x8 + 1)) x584000 (x588000 ++ [(y598 ++ (rd_L7 x584000 x8))])) else (none)) else (none)) else (none))) else ((spec_ProgOk.f k x588000).bind fun t608 => (if t608 = true then (some (x588000, true)) else (some (([] : List (List (S85))), false))))
end
def spec_TurnBeside.f (k : Nat) (l0_0 : List (List (S85))) (l1_0 : List (List (S85))) : Option ((List (List (S85))) × Bool) := (spec_ProgOk.f k l0_0).bind fun t585 => (if t585 = true then ((spec_ProgOk.f k l1_0).bind fun t586 => (spec_TurnBeside.j0 k (!t586) l0_0 l1_0)) else (spec_TurnBeside.j0 k true l0_0 l1_0))
theorem spec_TurnBeside.mono_l : ∀ k, (∀ y0 y1 y2, LeO (spec_TurnBeside.j0 k y0 y1 y2) (spec_TurnBeside.j0 (k + 1) y0 y1 y2)) ∧ (∀ y0 y1 y2 y3, LeO (spec_TurnBeside.l0 k y0 y1 y2 y3) (spec_TurnBeside.l0 (k + 1) y0 y1 y2 y3)) ∧ (∀ y0 y1 y2, LeO (spec_TurnBeside.l1 k y0 y1 y2) (spec_TurnBeside.l1 (k + 1) y0 y1 y2))
  | 0 => ⟨fun _ _ _ r h => by simp [spec_TurnBeside.j0] at h, fun _ _ _ _ r h => by simp [spec_TurnBeside.l0] at h, fun _ _ _ r h => by simp [spec_TurnBeside.l1] at h⟩
  | k + 1 => by
    obtain ⟨ih0, ih1, ih2⟩ := spec_TurnBeside.mono_l k
    refine ⟨?_, ?_, ?_⟩
    · intro y0 y1 y2
      unfold spec_TurnBeside.j0
      repeat' first
      | (with_reducible exact ih0 _ _ _)
      | (with_reducible exact ih1 _ _ _ _)
      | (with_reducible exact ih2 _ _ _)
      | (with_reducible exact spec_ProgOk.mono _ _)
      | (with_reducible exact LeO.refl _)
      | (with_reducible exact LeO.none _)
      | (with_reducible refine LeO.ite ?_ ?_)
      | (with_reducible refine LeO.bind ?_ (fun _ => ?_))
      | exact ih0 _ _ _
      | exact ih1 _ _ _ _
      | exact ih2 _ _ _
      | exact spec_ProgOk.mono _ _
      | exact LeO.none _
      | refine LeO.ite ?_ ?_
      | refine LeO.bind ?_ (fun _ => ?_)
    · intro y0 y1 y2 y3
      unfold spec_TurnBeside.l0
      repeat' first
      | (with_reducible exact ih0 _ _ _)
      | (with_reducible exact ih1 _ _ _ _)
      | (with_reducible exact ih2 _ _ _)
      | (with_reducible exact spec_ProgOk.mono _ _)
      | (with_reducible exact LeO.refl _)
      | (with_reducible exact LeO.none _)
      | (with_reducible refine LeO.ite ?_ ?_)
      | (with_reducible refine LeO.bind ?_ (fun _ => ?_))
      | exact ih0 _ _ _
      | exact ih1 _ _ _ _
      | exact ih2 _ _ _
      | exact spec_ProgOk.mono _ _
      | exact LeO.none _
      | refine LeO.ite ?_ ?_
      | refine LeO.bind ?_ (fun _ => ?_)
    · intro y0 y1 y2
      unfold spec_TurnBeside.l1
      repeat' first
      | (with_reducible exact ih0 _ _ _)
      | (with_reducible exact ih1 _ _ _ _)
      | (with_reducible exact ih2 _ _ _)
      | (with_reducible exact spec_ProgOk.mono _ _)
      | (with_reducible exact LeO.refl _)
      | (with_reducible exact LeO.none _)
      | (with_reducible refine LeO.ite ?_ ?_)
      | (with_reducible refine LeO.bind ?_ (fun _ => ?_))
      | exact ih0 _ _ _
      | exact ih1 _ _ _ _
      | exact ih2 _ _ _
      | exact spec_ProgOk.mono _ _
      | exact LeO.none _
      | refine LeO.ite ?_ ?_
      | refine LeO.bind ?_ (fun _ => ?_)
theorem spec_TurnBeside.mono : ∀ a0 a1 k, LeO (spec_TurnBeside.f k a0 a1) (spec_TurnBeside.f (k + 1) a0 a1) := by
  intro a0 a1 k
  obtain ⟨ih0, ih1, ih2⟩ := spec_TurnBeside.mono_l k
  unfold spec_TurnBeside.f
  repeat' first
      | (with_reducible exact ih0 _ _ _)
      | (with_reducible exact ih1 _ _ _ _)
      | (with_reducible exact ih2 _ _ _)
      | (with_reducible exact spec_ProgOk.mono _ _)
      | (with_reducible exact LeO.refl _)
      | (with_reducible exact LeO.none _)
      | (with_reducible refine LeO.ite ?_ ?_)
      | (with_reducible refine LeO.bind ?_ (fun _ => ?_))
      | exact ih0 _ _ _
      | exact ih1 _ _ _ _
      | exact ih2 _ _ _
      | exact spec_ProgOk.mono _ _
      | exact LeO.none _
      | refine LeO.ite ?_ ?_
      | refine LeO.bind ?_ (fun _ => ?_)
def spec_TurnBeside.T7 : Bool × List (List Nat × List Nat) := (true, [([], []), ([0], [0]), ([], []), ([], []), ([3], [3]), ([], []), ([4, 5], [4, 5]), ([6], [6]), ([2, 7], [2, 7]), ([8], [8]), ([1, 9, 8], [1, 9]), ([0, 1, 2, 3, 4, 5, 6, 7, 8, 9, 10], []), ([11, 10, 10, 0, 1, 2, 3, 4, 5, 6, 7, 8, 9, 10], [10, 11])])
def spec_TurnBeside.B7 : List Nat := [0, 1, 0, 0, 8, 0, 56, 120, 252, 508, 1023, 2047, 4095]
theorem spec_TurnBeside.tab7 : rtab .any (opsOf Try.f38 7) = spec_TurnBeside.T7 := by kernel_rfl
theorem spec_TurnBeside.bits7 : waitsOk spec_TurnBeside.T7.2 spec_TurnBeside.B7 = true := by kernel_rfl
def spec_TurnBeside.T11 : Bool × List (List Nat × List Nat) := (true, [([], []), ([0], [0]), ([], []), ([], []), ([3], [3]), ([], []), ([4, 5], [4, 5]), ([6], [6]), ([2, 7], [2, 7]), ([8], [8]), ([1, 9, 8], [1, 9]), ([0, 1, 2, 3, 4, 5, 6, 7, 8, 9, 10], []), ([11, 10, 10, 0, 1, 2, 3, 4, 5, 6, 7, 8, 9, 10], [10, 11])])
def spec_TurnBeside.B11 : List Nat := [0, 1, 0, 0, 8, 0, 56, 120, 252, 508, 1023, 2047, 4095]
theorem spec_TurnBeside.tab11 : rtab .any (opsOf Try.f38 11) = spec_TurnBeside.T11 := by kernel_rfl
theorem spec_TurnBeside.bits11 : waitsOk spec_TurnBeside.T11.2 spec_TurnBeside.B11 = true := by kernel_rfl
set_option maxHeartbeats 8000000 in
set_option maxRecDepth 100000 in
theorem spec_TurnBeside.calls (k : Nat) (A0_0 : Option Addr) (c0_0 : Nat) (l0_0 : List (List (S85))) (A1_0 : Option Addr) (c1_0 : Nat) (l1_0 : List (List (S85))) (r1 : List (List (S85))) (r2 : Bool) (w : World) (hr0_0 : Kd.C (Kd.slice 85 k85) w A0_0 l0_0.length l0_0) (hc0_0 : l0_0.length ≤ c0_0) (hr1_0 : Kd.C (Kd.slice 85 k85) w A1_0 l1_0.length l1_0) (hc1_0 : l1_0.length ≤ c1_0) (h : spec_TurnBeside.f k l0_0 l1_0 = some (r1, r2)) :
  Calls Try.prog 38 #[.agg #[.slice A0_0 l0_0.length c0_0], .agg #[.slice A1_0 l1_0.length c1_0]] w fun e w' => ∃ v0_ : Value, e = .returned (.tuple #[.agg #[v0_], .bool r2]) ∧ Kd.S (Kd.slice 85 k85) 82 w' w.heap.size (fun _ => True) v0_ r1 ∧ Below w.heap.size w w' := by
 have hu35 := Try.underlying35
 have HR0_0 := am_ hr0_0
 have HC0_0 := am_ hc0_0
 clear hr0_0 hc0_0
 have HR1_0 := am_ hr1_0
 have HC1_0 := am_ hc1_0
 clear hr1_0 hc1_0
 have HB := am_ (Below.refl w.heap.size w)
 have H : ((spec_ProgOk.f k l0_0).bind fun t585 => (if t585 = true then ((spec_ProgOk.f k l1_0).bind fun t586 => (spec_TurnBeside.j0 k (!t586) l0_0 l1_0)) else (spec_TurnBeside.j0 k true l0_0 l1_0))) = some (r1, r2) := h
 clear h
 have HC3 := am_ H
 clear H
 go_enter Try.func38, Try.ntmps38
 go_upto_region 1 with (first | ((with_reducible refine gate_dst (N := 2) rfl ?_); refine box_event ?hg (N := 2) ?hd (cs := #[.slice A0_0 l0_0.length c0_0]) (t := 35) ?hr ?_; (case hd => rfl); (case hg => rfl); (case hr => first | (go_simp; done) | (go_simp; rfl)); intro gb582 hg w4 hbox hb; have n0_ := am_ (below_step z38_4 hb); have n1_ := am_ (hbox); have n2_ := am_ (by rw [hg]; exact (below_size z38_4) : w.heap.size ≤ gb582); have n3_ := am_ (by rw [hg]; exact (below_size z38_4) : w.heap.size ≤ gb582); clear HB; have HB := n0_; have BK582 := n1_; have GW582 := n2_; have GE582 := n3_; clear n0_ n1_ n2_ n3_; clear hb hbox hg) | ((with_reducible refine gate_dst (N := 3) rfl ?_); refine box_event ?hg (N := 3) ?hd (cs := #[.slice A1_0 l1_0.length c1_0]) (t := 35) ?hr ?_; (case hd => rfl); (case hg => rfl); (case hr => first | (go_simp; done) | (go_simp; rfl)); intro gb583 hg w5 hbox hb; have n0_ := am_ (blk_below (bu BK582.out) hb); have n1_ := am_ (below_step z38_6 hb); have n2_ := am_ (hbox); have n3_ := am_ (by rw [hg]; exact (below_size z38_6) : w.heap.size ≤ gb583); have n4_ := am_ (by rw [hg]; exact (below_size z38_6) : w.heap.size ≤ gb583); have n5_ := am_ (by rw [hg]; exact Nat.ne_of_lt (blk_lt (bu BK582.out)) : gb582 ≠ gb583); have n6_ := am_ (by rw [hg]; exact Nat.ne_of_gt (blk_lt (bu BK582.out)) : gb583 ≠ gb582); clear BK582 HB; have BK582 := n0_; have HB := n1_; have BK583 := n2_; have GW583 := n3_; have GE583 := n4_; have NB582_583 := n5_; have NB583_582 := n6_; clear n0_ n1_ n2_ n3_ n4_ n5_ n6_; clear hb hbox hg) | ((with_reducible refine gate_dst (N := 4) rfl ?_); refine box_event ?hg (N := 4) ?hd (cs := #[.slice none 0 0]) (t := 35) ?hr ?_; (case hd => rfl); (case hg => rfl); (case hr => first | (go_simp; done) | (go_simp; rfl)); intro gb584 hg w6 hbox hb; have n0_ := am_ (blk_below (bu BK582.out) hb); have n1_ := am_ (blk_below (bu BK583.out) hb); have n2_ := am_ (below_step z38_7 hb); have n3_ := am_ (hbox); have n4_ := am_ (by rw [hg]; exact (below_size z38_7) : w.heap.size ≤ gb584); have n5_ := am_ (by rw [hg]; exact (below_size z38_7) : w.heap.size ≤ gb584); have n6_ := am_ (by rw [hg]; exact Nat.ne_of_lt (blk_lt (bu BK582.out)) : gb582 ≠ gb584); have n7_ := am_ (by rw [hg]; exact Nat.ne_of_gt (blk_lt (bu BK582.out)) : gb584 ≠ gb582); have n8_ := am_ (by rw [hg]; exact Nat.ne_of_lt (blk_lt (bu BK583.out)) : gb583 ≠ gb584); have n9_ := am_ (by rw [hg]; exact Nat.ne_of_gt (blk_lt (bu BK583.out)) : gb584 ≠ gb583); clear BK582 BK583 HB; have BK582 := n0_; have BK583 := n1_; have HB := n2_; have BK584 := n3_; have GW584 := n4_; have GE584 := n5_; have NB582_584 := n6_; have NB584_582 := n7_; have NB583_584 := n8_; have NB584_583 := n9_; clear n0_ n1_ n2_ n3_ n4_ n5_ n6_ n7_ n8_ n9_; clear hb hbox hg))
 (try simp only [Act.put, List.setIfInBounds_toArray, List.set_cons_zero, List.set_cons_succ])
 go_cut [16] (fun v16 wc => ∃ (kq : Nat) (x16_2 : Bool), v16 = .bool x16_2 ∧ Aside0 (spec_TurnBeside.j0 kq x16_2 l0_0 l1_0 = some (r1, r2)) ∧ Aside0 (kq ≤ k) ∧ Aside0 (wc.heap[gb582]? = some (.cells #[(.slice A0_0 l0_0.length c0_0)] 35 (0, 0))) ∧ Aside0 (wc.heap[gb583]? = some (.cells #[(.slice A1_0 l1_0.length c1_0)] 35 (0, 0))) ∧ Aside0 (wc.heap[gb584]? = some (.cells #[(.slice none 0 0)] 35 (0, 0))) ∧ Aside0 (Below w.heap.size w wc))
 case first =>
  have H := HC3.out
  clear HC3
  replace H := Option.bind_eq_some_iff.mp H
  obtain ⟨t585, A70, H⟩ := H
  replace H : (if t585 = true then ((spec_ProgOk.f k l1_0).bind fun t586 => (spec_TurnBeside.j0 k (!t586) l0_0 l1_0)) else (spec_TurnBeside.j0 k true l0_0 l1_0)) = some (r1, r2) := H
  have A7 := am_ A70
  clear A70
  by_cases c8 : t585 = true
  ·subst c8
   have H1 : ((spec_ProgOk.f k l1_0).bind fun t586 => (spec_TurnBeside.j0 k (!t586) l0_0 l1_0)) = some (r1, r2) := by rw [if_pos rfl] at H; exact H
   clear H
   have H := H1
   clear H1
   replace H := Option.bind_eq_some_iff.mp H
   obtain ⟨t586, A90, H⟩ := H
   replace H : (spec_TurnBeside.j0 k (!t586) l0_0 l1_0) = some (r1, r2) := H
   have A9 := am_ A90
   clear A90
   have H' := am_ H
   clear H
   have hnb10 := NB582_583.out
   have hnc10 := NB583_582.out
   have hnb11 := NB582_584.out
   have hnc11 := NB584_582.out
   have hcz12_0 : w6.cell? ⟨gb582, 0, none⟩ = some (.slice A0_0 l0_0.length c0_0) := (blk_cell BK582.out 0).trans rfl
   have hfz12_0 := blk_frozen BK582.out 0
   go_wp2_with (first | ((with_reducible refine gate_callee (f := 43) rfl ?_); refine goesL_ (some 10) rfl rfl Try.func43 (by kernel_rfl) rfl #[.agg #[.slice A0_0 l0_0.length c0_0]] rfl (by (try simp only [List.map_toArray, List.map_cons, List.map_nil]); first | done | rfl | (simp only [List.length_drop, List.length_take]; rfl)) ?_; (with_reducible refine (spec_ProgOk.calls k _ _ l0_0 true _ ?side1 ?side2 A7.out).mono ?_); (case side1 => repeat (first | exact (Kd.C_below HR0_0.out HB.out) | (with_reducible refine Kd.C_alloc ?_ _) | (with_reducible refine Kd.C_drewN ?_ _) | (with_reducible refine Kd.C_drew ?_))); (case side2 => exact HC0_0.out); rintro e w13 ⟨rfl, hb⟩; refine ⟨_, rfl, ?_⟩; have n0_ := am_ (blk_below (bu BK582.out) hb); have n1_ := am_ (blk_below (bu BK583.out) hb); have n2_ := am_ (blk_below (bu BK584.out) hb); have n3_ := am_ (below_step z38_8 hb); clear BK582 BK583 BK584 HB; have BK582 := n0_; have BK583 := n1_; have BK584 := n2_; have HB := n3_; clear n0_ n1_ n2_ n3_; (try clear hb); (try clear hb2); (try clear hk); (try clear hi); have hnb14 := NB583_584.out; have hnc14 := NB584_583.out; have hcz15_0 : w13.cell? ⟨gb583, 0, none⟩ = some (.slice A1_0 l1_0.length c1_0) := (blk_cell BK583.out 0).trans rfl; have hfz15_0 := blk_frozen BK583.out 0) | (go_at_call 43; (with_reducible refine (spec_ProgOk.calls k _ _ l1_0 t586 _ ?side1 ?side2 A9.out).mono ?_); (case side1 => repeat (first | exact (Kd.C_below HR1_0.out HB.out) | (with_reducible refine Kd.C_alloc ?_ _) | (with_reducible refine Kd.C_drewN ?_ _) | (with_reducible refine Kd.C_drew ?_))); (case side2 => exact HC1_0.out); rintro e w16 ⟨rfl, hb⟩; have n0_ := am_ (blk_below (bu BK582.out) hb); have n1_ := am_ (blk_below (bu BK583.out) hb); have n2_ := am_ (blk_below (bu BK584.out) hb); have n3_ := am_ (below_step z38_8 hb); clear BK582 BK583 BK584 HB; have BK582 := n0_; have BK583 := n1_; have BK584 := n2_; have HB := n3_; clear n0_ n1_ n2_ n3_; (try clear hb); (try clear hb2); (try clear hk); (try clear hi)))
   go_meet
   case rel => exact ⟨_, (!t586), z38_1, H', ⟨by first | omega | exact Nat.le_refl _⟩, ⟨bu BK582.out⟩, ⟨bu BK583.out⟩, ⟨bu BK584.out⟩, ⟨z38_8⟩⟩
  ·replace c8 := Bool.eq_false_iff.mpr c8
   subst c8
   have H1 : (spec_TurnBeside.j0 k true l0_0 l1_0) = some (r1, r2) := by rw [if_neg (show ¬ (false = true) by decide)] at H; exact H
   clear H
   have H := H1
   clear H1
   have H' := am_ H
   clear H
   have hnb17 := NB582_583.out
   have hnc17 := NB583_582.out
   have hnb18 := NB582_584.out
   have hnc18 := NB584_582.out
   have hcz19_0 : w6.cell? ⟨gb582, 0, none⟩ = some (.slice A0_0 l0_0.length c0_0) := (blk_cell BK582.out 0).trans rfl
   have hfz19_0 := blk_frozen BK582.out 0
   go_wp2_with (first | ((with_reducible refine gate_callee (f := 43) rfl ?_); refine goesL_ (some 10) rfl rfl Try.func43 (by kernel_rfl) rfl #[.agg #[.slice A0_0 l0_0.length c0_0]] rfl (by (try simp only [List.map_toArray, List.map_cons, List.map_nil]); first | done | rfl | (simp only [List.length_drop, List.length_take]; rfl)) ?_; (with_reducible refine (spec_ProgOk.calls k _ _ l0_0 false _ ?side1 ?side2 A7.out).mono ?_); (case side1 => repeat (first | exact (Kd.C_below HR0_0.out HB.out) | (with_reducible refine Kd.C_alloc ?_ _) | (with_reducible refine Kd.C_drewN ?_ _) | (with_reducible refine Kd.C_drew ?_))); (case side2 => exact HC0_0.out); rintro e w20 ⟨rfl, hb⟩; refine ⟨_, rfl, ?_⟩; have n0_ := am_ (blk_below (bu BK582.out) hb); have n1_ := am_ (blk_below (bu BK583.out) hb); have n2_ := am_ (blk_below (bu BK584.out) hb); have n3_ := am_ (below_step z38_8 hb); clear BK582 BK583 BK584 HB; have BK582 := n0_; have BK583 := n1_; have BK584 := n2_; have HB := n3_; clear n0_ n1_ n2_ n3_; (try clear hb); (try clear hb2); (try clear hk); (try clear hi)))
   go_meet
   case rel => exact ⟨_, (true), z38_1, H', ⟨by first | omega | exact Nat.le_refl _⟩, ⟨bu BK582.out⟩, ⟨bu BK583.out⟩, ⟨bu BK584.out⟩, ⟨z38_8⟩⟩
 case rest =>
  clear HC3
  obtain ⟨kq, x16_2, rfl, HA, HJ2, BK582, BK583, BK584, HB⟩ := hcut
  cases kq with
  | zero => exact absurd HA.out (by simp [spec_TurnBeside.j0])
  | succ kj2 =>
   have H := HA.out
   clear HA
   simp only [spec_TurnBeside.j0] at H
   by_cases c21 : x16_2 = true
   ·subst c21
    have H1 : (some (([] : List (List (S85))), false)) = some (r1, r2) := by rw [if_pos rfl] at H; exact H
    clear H
    have H := H1
    clear H1
    simp only [Option.some.injEq, Prod.mk.injEq] at H
    obtain ⟨rfl, rfl⟩ := H
    have hnb22 := NB584_582.out
    have hnc22 := NB582_584.out
    have hnb23 := NB584_583.out
    have hnc23 := NB583_584.out
    have hcz24_0 : wc.cell? ⟨gb584, 0, none⟩ = some (.slice none 0 0) := (blk_cell BK584.out 0).trans rfl
    have hfz24_0 := blk_frozen BK584.out 0
    go_wp2
    refine bodyPost_ret (results_ct rfl _ _ gb584 35 #[.slice none 0 0] (0, 0) _ rfl z38_14 Try.underlying35 rfl (by kernel_rfl)) rfl ?_
    exact ⟨_, z38_3, z38_5, z38_8⟩
   ·replace c21 := Bool.eq_false_iff.mpr c21
    subst c21
    have H1 : (spec_TurnBeside.l0 kj2 0 l0_0 l1_0 ([] : List (List (S85)))) = some (r1, r2) := by rw [if_neg (show ¬ (false = true) by decide)] at H; exact H
    clear H
    have H := H1
    clear H1
    have H' := am_ H
    clear H
    go_wp2_with (first | ((with_reducible refine gate_dst (N := 6) rfl ?_); refine box_event ?hg (N := 6) ?hd (cs := #[.slice none 0 0]) (t := 35) ?hr ?_; (case hd => rfl); (case hg => rfl); (case hr => first | (go_simp; done) | (go_simp; rfl)); intro gb587 hg w25 hbox hb; have n0_ := am_ (blk_below (bu BK582.out) hb); have n1_ := am_ (blk_below (bu BK583.out) hb); have n2_ := am_ (blk_below (bu BK584.out) hb); have n3_ := am_ (below_step z38_8 hb); have n4_ := am_ (hbox); have n5_ := am_ (by rw [hg]; exact (below_size z38_8) : w.heap.size ≤ gb587); have n6_ := am_ (by rw [hg]; exact (below_size z38_8) : w.heap.size ≤ gb587); have n7_ := am_ (by rw [hg]; exact Nat.ne_of_lt (blk_lt (bu BK582.out)) : gb582 ≠ gb587); have n8_ := am_ (by rw [hg]; exact Nat.ne_of_gt (blk_lt (bu BK582.out)) : gb587 ≠ gb582); have n9_ := am_ (by rw [hg]; exact Nat.ne_of_lt (blk_lt (bu BK583.out)) : gb583 ≠ gb587); have n10_ := am_ (by rw [hg]; exact Nat.ne_of_gt (blk_lt (bu BK583.out)) : gb587 ≠ gb583); have n11_ := am_ (by rw [hg]; exact Nat.ne_of_lt (blk_lt (bu BK584.out)) : gb584 ≠ gb587); have n12_ := am_ (by rw [hg]; exact Nat.ne_of_gt (blk_lt (bu BK584.out)) : gb587 ≠ gb584); clear BK582 BK583 BK584 HB; have BK582 := n0_; have BK583 := n1_; have BK584 := n2_; have HB := n3_; have BK587 := n4_; have GW587 := n5_; have GE587 := n6_; have NB582_587 := n7_; have NB587_582 := n8_; have NB583_587 := n9_; have NB587_583 := n10_; have NB584_587 := n11_; have NB587_584 := n12_; clear n0_ n1_ n2_ n3_ n4_ n5_ n6_ n7_ n8_ n9_ n10_ n11_ n12_; clear hb hbox hg; have hnb26 := NB587_582.out; have hnc26 := NB582_587.out; have hnb27 := NB587_583.out; have hnc27 := NB583_587.out; have hnb28 := NB587_584.out; have hnc28 := NB584_587.out; have hcz29_0 : w25.cell? ⟨gb587, 0, none⟩ = some (.slice none 0 0) := (blk_cell BK587.out 0).trans rfl; have hfz29_0 := blk_frozen BK587.out 0))
    go_loopg [7] kj2 (fun kq v7 w' => ∃ (x7_2 : Int) (x588000_2 : List (List (S85))) (u588000 : Value), v7 = .int .i64 x7_2 ∧ Aside0 (spec_TurnBeside.l0 kq x7_2 l0_0 l1_0 x588000_2 = some (r1, r2)) ∧ Aside0 (kq ≤ kj2) ∧ Aside0 (Kd.S (Kd.slice 85 k85) 82 w' w.heap.size (fun _ => True) u588000 x588000_2) ∧ Aside0 (w'.heap[gb582]? = some (.cells #[(.slice A0_0 l0_0.length c0_0)] 35 (0, 0))) ∧ Aside0 (w'.heap[gb583]? = some (.cells #[(.slice A1_0 l1_0.length c1_0)] 35 (0, 0))) ∧ Aside0 (w'.heap[gb584]? = some (.cells #[(.slice none 0 0)] 35 (0, 0))) ∧ Aside0 (w'.heap[gb587]? = some (.cells #[u588000] 35 (0, 0))) ∧ Aside0 (Below w.heap.size w w'))
    case atStart => exact ⟨(0), (([] : List (List (S85)))), (.slice none 0 0), z38_1, H', ⟨Nat.le_refl _⟩, ⟨z38_5⟩, ⟨z38_9⟩, ⟨z38_10⟩, ⟨z38_11⟩, ⟨by (with_reducible repeat (first | refine blk_drewN ?_ _ | refine blk_drew ?_ | refine blk_alloc ?_ _)); refine blk_put (cs := #[.slice none 0 0]) ?_ 0 _ rfl; (with_reducible repeat (first | refine blk_drewN ?_ _ | refine blk_drew ?_ | refine blk_alloc ?_ _)); exact BK587.out⟩, ⟨z38_12⟩⟩
    case round =>
     clear H'
     obtain ⟨x7_2, x588000_2, u588000, rfl, HA, HK2, HO_588000, BK582, BK583, BK584, BK587, HB⟩ := hrel
     cases gk with
     | zero => exact absurd HA.out (by simp [spec_TurnBeside.l0])
     | succ k2 =>
      have H := HA.out
      clear HA
      simp only [spec_TurnBeside.l0] at H
      by_cases c30 : x7_2 < (l0_0.length : Int)
      ·rw [if_pos c30] at H
       have c30b0 : decide (x7_2 < (l0_0.length : Int)) = true := decide_eq_true c30
       clear c30
       obtain ⟨y588, hy588⟩ : ∃ y_ : List (S85), y_ = (([] : List (S85))) := ⟨_, rfl⟩
       replace H : (if 0 ≤ x7_2 then (if y588.length + (rd_L7 l0_0 x7_2).length < 5864062014805 then (if x588000_2.length < 5864062014805 then (spec_TurnBeside.l0 k2 (wrap64 (x7_2 + 1)) l0_0 l1_0 (x588000_2 ++ [(y588 ++ (rd_L7 l0_0 x7_2))])) else (none)) else (none)) else (none)) = some (r1, r2) := by first | (rw [hy588]; with_reducible exact H) | (have H2_ := (Option.bind_some _ _).symm.trans H; rw [hy588]; with_reducible exact H2_) | (have H2_ := (Option.bind_some _ _).symm.trans H; with_reducible exact H2_) | with_reducible exact H | (rw [hy588]; exact H) | exact H
       have Ny588 := am_ hy588
       clear hy588
       by_cases c31 : 0 ≤ x7_2
       ·rw [if_pos c31] at H
        have c31b0 : decide (0 ≤ x7_2) = true := decide_eq_true c31
        clear c31
        by_cases c32 : y588.length + (rd_L7 l0_0 x7_2).length < 5864062014805
        ·rw [if_pos c32] at H
         have LMc32 := am_ c32
         clear c32
         obtain ⟨y592, hy592⟩ : ∃ y_ : List (S85), y_ = (y588 ++ (rd_L7 l0_0 x7_2)) := ⟨_, rfl⟩
         replace H : (if x588000_2.length < 5864062014805 then (spec_TurnBeside.l0 k2 (wrap64 (x7_2 + 1)) l0_0 l1_0 (x588000_2 ++ [y592])) else (none)) = some (r1, r2) := by first | (rw [hy592]; with_reducible exact H) | (have H2_ := (Option.bind_some _ _).symm.trans H; rw [hy592]; with_reducible exact H2_) | (have H2_ := (Option.bind_some _ _).symm.trans H; with_reducible exact H2_) | with_reducible exact H | (rw [hy592]; exact H) | exact H
         have Ny592 := am_ hy592
         clear hy592
         by_cases c33 : x588000_2.length < 5864062014805
         ·rw [if_pos c33] at H
          have LMc33 := am_ c33
          clear c33
          obtain ⟨y595, hy595⟩ : ∃ y_ : List (List (S85)), y_ = (x588000_2 ++ [y592]) := ⟨_, rfl⟩
          replace H : (spec_TurnBeside.l0 k2 (wrap64 (x7_2 + 1)) l0_0 l1_0 y595) = some (r1, r2) := by first | (rw [hy595]; with_reducible exact H) | (have H2_ := (Option.bind_some _ _).symm.trans H; rw [hy595]; with_reducible exact H2_) | (have H2_ := (Option.bind_some _ _).symm.trans H; with_reducible exact H2_) | with_reducible exact H | (rw [hy595]; exact H) | exact H
          have Ny595 := am_ hy595
          clear hy595
          have H' := am_ H
          clear H
          have hnb34 := NB582_583.out
          have hnc34 := NB583_582.out
          have hnb35 := NB582_584.out
          have hnc35 := NB584_582.out
          have hnb36 := NB582_587.out
          have hnc36 := NB587_582.out
          have hcz37_0 : wr.cell? ⟨gb582, 0, none⟩ = some (.slice A0_0 l0_0.length c0_0) := (blk_cell BK582.out 0).trans rfl
          have hfz37_0 := blk_frozen BK582.out 0
          try go_wp2
          have n0_ := am_ (Kd.S_drew HO_588000.out)
          have n1_ := am_ (blk_drew BK582.out)
          have n2_ := am_ (blk_drew BK583.out)
          have n3_ := am_ (blk_drew BK584.out)
          have n4_ := am_ (blk_drew BK587.out)
          have n5_ := am_ (below_drew1 HB.out)
          clear HO_588000 BK582 BK583 BK584 BK587 HB
          have HO_588000 := n0_
          have BK582 := n1_
          have BK583 := n2_
          have BK584 := n3_
          have BK587 := n4_
          have HB := n5_
          clear n0_ n1_ n2_ n3_ n4_ n5_
          have p591 : 0 ≤ (x7_2 : Int) := of_decide_eq_true z38_2
          have q591 : x7_2 < (l0_0.length : Int) := of_decide_eq_true z38_2
          obtain ⟨ad591, A591_0, c591_0, e591, hx591_0, hl591_0, hi591_0⟩ := at_L7 HR0_0.out x7_2 p591 q591
          have hw591_0 := hx591_0
          cases e591
          replace hx591_0 := (HB.out.cell (World.block_lt_of_cell? w _ hx591_0)).trans hx591_0
          have HR591_0 := am_ hi591_0
          have HC591_0 := am_ hl591_0
          clear hi591_0 hl591_0
          replace p591 := eq_true p591
          replace q591 := eq_true q591
          refine start_ (n := 13) (S := fun w' => w'.cell? ⟨gb587, 0, none⟩ = some (u588000) ∧ w'.cell? ⟨gb582, 0, none⟩ = some (.slice (some ad591) l0_0.length c0_0) ∧ w'.cell? (ad591.add (x7_2).toNat) = some (.slice A591_0 (rd_L7 l0_0 x7_2).length c591_0)) (ds := [12]) #[false, false, false, false, false, false, false, false, false, false, false, false, false] (by kernel_rfl) rfl rfl ⟨(blk_cell BK587.out 0).trans rfl, (blk_cell BK582.out 0).trans rfl, ((HB.out.cell (World.block_lt_of_cell? w _ hw591_0)).trans hw591_0)⟩ (fun hHeld => ?_); refine with_tabW spec_TurnBeside.tab7 spec_TurnBeside.bits7 (fun HT_ HW_ => ?_)
          generalize wr.drew = w38 at HO_588000 BK582 BK583 BK584 BK587 HB HR591_0 hx591_0 hHeld ⊢
          refine pure_ (i := 0) (N := some 26) (v := ?_) (a' := ?_) #[true, false, false, false, false, false, false, false, false, false, false, false, false] rfl rfl (any_of HT_.out (by kernel_rfl)) (fun _ _ _ h => h) (Or.inl ⟨by rfl, ?_⟩) ?_ ?_
          rotate_left
          ·intro w'
           go_simp
           with_reducible rfl
          rotate_left
          ·simp only [Act.put, List.setIfInBounds_toArray, List.set_cons_zero, List.set_cons_succ, i64_w, i32_w]
           rfl
          refine pure_ (i := 3) (N := some 29) (v := ?_) (a' := ?_) #[true, false, false, true, false, false, false, false, false, false, false, false, false] rfl rfl (any_of HT_.out (by kernel_rfl)) (fun _ _ _ h => h) (Or.inl ⟨by rfl, ?_⟩) ?_ ?_
          rotate_left
          ·intro w'
           go_simp
           with_reducible rfl
          rotate_left
          ·simp only [Act.put, List.setIfInBounds_toArray, List.set_cons_zero, List.set_cons_succ, i64_w, i32_w]
           rfl
          refine pure_ (i := 5) (N := some 31) (v := ?_) (a' := ?_) #[true, false, false, true, false, true, false, false, false, false, false, false, false] rfl rfl (any_of HT_.out (by kernel_rfl)) (fun _ _ _ h => h) (Or.inl ⟨by rfl, ?_⟩) ?_ ?_
          rotate_left
          ·intro w'
           go_simp
           with_reducible rfl
          rotate_left
          ·simp only [Act.put, List.setIfInBounds_toArray, List.set_cons_zero, List.set_cons_succ, i64_w, i32_w]
           rfl
          refine take_ (i := 1) (N := some 27) (v := ?_) (a' := ?_) #[true, true, false, true, false, true, false, false, false, false, false, false, false] rfl rfl (take_ofW HT_.out HW_.out (by kernel_rfl)) (fun _ _ _ h => h) (Or.inl ⟨by rfl, ?_⟩) hHeld ?_ ?_
          rotate_left
          ·rintro w' ⟨s0, s1, s2⟩
           go_simp
           with_reducible rfl
          rotate_left
          ·simp only [Act.put, List.setIfInBounds_toArray, List.set_cons_zero, List.set_cons_succ, i64_w, i32_w]
           rfl
          refine take_ (i := 4) (N := some 30) (v := ?_) (a' := ?_) #[true, true, false, true, true, true, false, false, false, false, false, false, false] rfl rfl (take_ofW HT_.out HW_.out (by kernel_rfl)) (fun _ _ _ h => h) (Or.inl ⟨by rfl, ?_⟩) hHeld ?_ ?_
          rotate_left
          ·rintro w' ⟨s0, s1, s2⟩
           go_simp
           with_reducible rfl
          rotate_left
          ·simp only [Act.put, List.setIfInBounds_toArray, List.set_cons_zero, List.set_cons_succ, i64_w, i32_w]
           rfl
          refine pure_ (i := 6) (N := some 32) (v := ?_) (a' := ?_) #[true, true, false, true, true, true, true, false, false, false, false, false, false] rfl rfl (any_of HT_.out (by kernel_rfl)) (fun _ _ _ h => h) (Or.inl ⟨by rfl, ?_⟩) ?_ ?_
          rotate_left
          ·intro w'
           go_simp
           with_reducible rfl
          rotate_left
          ·simp only [Act.put, List.setIfInBounds_toArray, List.set_cons_zero, List.set_cons_succ, i64_w, i32_w]
           rfl
          refine take_ (i := 7) (N := some 33) (v := ?_) (a' := ?_) #[true, true, false, true, true, true, true, true, false, false, false, false, false] rfl rfl (take_ofW HT_.out HW_.out (by kernel_rfl)) (fun _ _ _ h => h) (Or.inl ⟨by rfl, ?_⟩) hHeld ?_ ?_
          rotate_left
          ·rintro w' ⟨s0, s1, s2⟩
           go_simp
           with_reducible rfl
          rotate_left
          ·simp only [Act.put, List.setIfInBounds_toArray, List.set_cons_zero, List.set_cons_succ, i64_w, i32_w]
           rfl
          refine one_ (i := 2) (N := some 28) #[true, true, true, true, true, true, true, true, false, false, false, false, false] rfl rfl (one_of HT_.out (by kernel_rfl)) (by decide) (fun K hK => ?_)
          refine Kd.R_lit_step k85 _ 85 ?hg (N := 28) ?hd (xs := ([] : List (S85))) (inner := []) (ok := fun _ => True) (okp := fun _ => True) ?hr ?hp (fun _ hk => hk) trivial (Below.refl _ _) (Nat.le_refl _) (by simp) ?_; (case hd => rfl); (case hg => rfl); (case hr => first | (go_simp; done) | (go_simp; rfl)); (case hp => exact (Reps.none _ _))
          intro v589 w39 ho40 hb hg_ hnew_
          clear hg_ hnew_
          (first | rw [← Ny588.out] at ho40 | (simp only [Int.reduceToNat] at ho40; rw [← Ny588.out] at ho40))
          have n0_ := am_ (Kd.S_elder' (su HO_588000.out) (Kd.R_base ho40) hb)
          have n1_ := am_ (Kd.R_lower ho40 (below_size z38_12))
          have n2_ := am_ (blk_below (bu BK582.out) hb)
          have n3_ := am_ (blk_below (bu BK583.out) hb)
          have n4_ := am_ (blk_below (bu BK584.out) hb)
          have n5_ := am_ (blk_below (bu BK587.out) hb)
          have n6_ := am_ (below_step z38_12 hb)
          clear HO_588000 BK582 BK583 BK584 BK587 HB
          have HO_588000 := n0_
          have HO590 := n1_
          have BK582 := n2_
          have BK583 := n3_
          have BK584 := n4_
          have BK587 := n5_
          have HB := n6_
          clear n0_ n1_ n2_ n3_ n4_ n5_ n6_ hb ho40
          refine hK.out _ _ ⟨(blk_cell BK587.out 0).trans rfl, (blk_cell BK582.out 0).trans rfl, ((HB.out.cell (World.block_lt_of_cell? w _ hw591_0)).trans hw591_0)⟩ (fun hHeld => ?_)
          clear hK K
          refine norm_ (a' := ?_) ?_ ?_
          rotate_left
          ·show Act.put _ (some 28) _ = _
           simp only [Act.put, List.setIfInBounds_toArray, List.set_cons_zero, List.set_cons_succ, i64_w, i32_w]
           rfl
          refine one_ (i := 8) (N := some 34) #[true, true, true, true, true, true, true, true, true, false, false, false, false] rfl rfl (one_of HT_.out (by kernel_rfl)) (by decide) (fun K hK => ?_)
          refine Kd.R_append_rows_step k85 (w0 := w) w.heap.size (by rfl) (.tmp 28) (.tmp 33) 82 85 (.agg #[(.int .i64 0), (.int .i64 0), (.int .i64 0)]) 24 rfl Try.underlying82 info85 rfl (by decide) (by omega) v589 y588 (rd_L7 l0_0 x7_2) _ _ _ (fun _ => True) (fun _ => False) rfl rfl ?aO ?aR (fun _ _ h => h) (fun _ h => h.elim) ?aF ?aB ?aS ?aL ?_
          (case aR => repeat (first | exact (Kd.C_below HR591_0.out HB.out) | (with_reducible refine Kd.C_alloc ?_ _) | (with_reducible refine Kd.C_drewN ?_ _) | (with_reducible refine Kd.C_drew ?_)))
          (case aB => exact z38_12)
          (case aF => exact (fun _ _ => trivial))
          (case aO => exact (ru HO590.out))
          (case aS => exact (below_size z38_12))
          (case aL => have := LMc32.out; omega)
          intro v593 w41 ho hb hg hat
          rw [← Ny592.out] at ho
          have n0_ := am_ (Kd.S_after (ok := (fun _ => True)) (su HO_588000.out) hg hat)
          have n1_ := am_ (blk_grown (bu BK582.out) hg (Kd.R_ne HO590.out BK582.out (by decide)))
          have n2_ := am_ (blk_grown (bu BK583.out) hg (Kd.R_ne HO590.out BK583.out (by decide)))
          have n3_ := am_ (blk_grown (bu BK584.out) hg (Kd.R_ne HO590.out BK584.out (by decide)))
          have n4_ := am_ (blk_grown (bu BK587.out) hg (Kd.R_ne HO590.out BK587.out (by decide)))
          have n5_ := am_ (hb)
          have n6_ := am_ (ho)
          clear HO_588000 BK582 BK583 BK584 BK587 HB HO590
          have HO_588000 := n0_
          have BK582 := n1_
          have BK583 := n2_
          have BK584 := n3_
          have BK587 := n4_
          have HB := n5_
          have HO594 := n6_
          clear n0_ n1_ n2_ n3_ n4_ n5_ n6_ ho hb hg hat
          obtain ⟨Ao43, co43, eo43⟩ := Kd.R_slice HO594.out
          (first | subst eo43 | (injection eo43 with f1_ f2_ f3_; have f4_ := f1_.symm; have f5_ := f3_.symm; clear f1_ f2_ f3_; subst f4_; subst f5_))
          refine hK.out _ _ ⟨(blk_cell BK587.out 0).trans rfl, (blk_cell BK582.out 0).trans rfl, ((HB.out.cell (World.block_lt_of_cell? w _ hw591_0)).trans hw591_0)⟩ (fun hHeld => ?_)
          clear hK K
          refine norm_ (a' := ?_) ?_ ?_
          rotate_left
          ·show Act.put _ (some 34) _ = _
           simp only [Act.put, List.setIfInBounds_toArray, List.set_cons_zero, List.set_cons_succ, i64_w, i32_w]
           rfl
          refine one_ (i := 9) (N := some 35) #[true, true, true, true, true, true, true, true, true, true, false, false, false] rfl rfl (one_of HT_.out (by kernel_rfl)) (by decide) (fun K hK => ?_)
          refine value_ (w1 := ?_) (v := ?_) (by rfl) rfl ?_ ?_
          rotate_left 2
          ·go_simp
           constructor
           ·rfl
           ·rfl
          refine hK.out _ _ ⟨(blk_cell (blk_alloc BK587.out _) 0).trans rfl, (blk_cell (blk_alloc BK582.out _) 0).trans rfl, (World.cell?_alloc_lt _ _ _ (World.block_lt_of_cell? _ _ (((HB.out.cell (World.block_lt_of_cell? w _ hw591_0)).trans hw591_0)))).trans (((HB.out.cell (World.block_lt_of_cell? w _ hw591_0)).trans hw591_0))⟩ (fun hHeld => ?_)
          clear hK K
          refine norm_ (a' := ?_) ?_ ?_
          rotate_left
          ·show Act.put _ (some 35) _ = _
           simp only [Act.put, List.setIfInBounds_toArray, List.set_cons_zero, List.set_cons_succ, i64_w, i32_w]
           rfl
          refine one_ (i := 10) (N := some 36) #[true, true, true, true, true, true, true, true, true, true, true, false, false] rfl rfl (one_of HT_.out (by kernel_rfl)) (by decide) (fun K hK => ?_)
          refine Kd.S_append_step (Kd.slice 85 k85) (w0 := w) w.heap.size (by rfl) (.tmp 27) (.tmp 35) 33 82 (.slice none 0 0) 24 rfl Try.underlying33 info82 rfl (by decide) (by omega) u588000 x588000_2 y592 [.slice Ao43 y592.length co43] (fun _ => True) (fun k_ => some k_ = (.slice Ao43 y592.length co43 : Value).ownBlock) rfl rfl ?aP (fun k_ hk_ => ((Kd.R_mono (ok' := fun k_ => ((fun _ => True)) k_ ∧ some k_ ≠ (u588000 : Value).ownBlock) (Kd.R_apart' (HO594.out) (Kd.S_typed HO_588000.out) (by decide)) (fun k_ hk => ⟨trivial, hk.2⟩))).1 k_ hk_.symm) ?aF ?aO ?aB ?aS ?aL ?_
          (case aP => exact Kd.M_row (Kd.R_mono (Kd.R_tight rfl (Kd.R_mono (ok' := fun k_ => ((fun _ => True)) k_ ∧ some k_ ≠ (u588000 : Value).ownBlock) (Kd.R_apart' (HO594.out) (Kd.S_typed HO_588000.out) (by decide)) (fun k_ hk => ⟨trivial, hk.2⟩))) (fun _ h_ => h_)))
          (case aB => exact z38_12)
          (case aF => exact (fun _ _ => trivial))
          (case aO => exact (su (Kd.S_mono HO_588000.out (fun k_ hk => ⟨trivial, fun e_ => hk.2 e_⟩))))
          (case aS => exact (below_size z38_12))
          (case aL => have := LMc33.out; omega)
          intro v596 w42 ho hb hg hat
          rw [← Ny595.out] at ho
          have n0_ := am_ (blk_grown (bu BK582.out) hg (Kd.S_ne HO_588000.out BK582.out (by decide)))
          have n1_ := am_ (blk_grown (bu BK583.out) hg (Kd.S_ne HO_588000.out BK583.out (by decide)))
          have n2_ := am_ (blk_grown (bu BK584.out) hg (Kd.S_ne HO_588000.out BK584.out (by decide)))
          have n3_ := am_ (blk_grown (bu BK587.out) hg (Kd.S_ne HO_588000.out BK587.out (by decide)))
          have n4_ := am_ (hb)
          have n5_ := am_ (ho)
          clear BK582 BK583 BK584 BK587 HB HO_588000 HO594
          have BK582 := n0_
          have BK583 := n1_
          have BK584 := n2_
          have BK587 := n3_
          have HB := n4_
          have HO597 := n5_
          clear n0_ n1_ n2_ n3_ n4_ n5_ ho hb hg hat
          obtain ⟨Ao44, co44, eo44⟩ := Kd.S_slice HO597.out
          (first | subst eo44 | (injection eo44 with f1_ f2_ f3_; have f4_ := f1_.symm; have f5_ := f3_.symm; clear f1_ f2_ f3_; subst f4_; subst f5_))
          refine hK.out _ _ ⟨(blk_cell BK587.out 0).trans rfl, (blk_cell BK582.out 0).trans rfl, ((HB.out.cell (World.block_lt_of_cell? w _ hw591_0)).trans hw591_0)⟩ (fun hHeld => ?_)
          clear hK K
          refine norm_ (a' := ?_) ?_ ?_
          rotate_left
          ·show Act.put _ (some 36) _ = _
           simp only [Act.put, List.setIfInBounds_toArray, List.set_cons_zero, List.set_cons_succ, i64_w, i32_w]
           rfl
          refine pure_ (i := 11) (N := some 37) (v := ?_) (a' := ?_) #[true, true, true, true, true, true, true, true, true, true, true, true, false] rfl rfl (any_of HT_.out (by kernel_rfl)) (fun _ _ _ h => h) (Or.inl ⟨by rfl, ?_⟩) ?_ ?_
          rotate_left
          ·intro w'
           go_simp
           with_reducible rfl
          rotate_left
          ·simp only [Act.put, List.setIfInBounds_toArray, List.set_cons_zero, List.set_cons_succ, i64_w, i32_w]
           rfl
          refine last_ (i := 12) (N := none) #[true, true, true, true, true, true, true, true, true, true, true, true, true] rfl rfl (one_of HT_.out (by kernel_rfl)) (by decide) (fun K hK => ?_)
          have hs45 : w42.cell? ⟨gb587, 0, none⟩ = some (u588000) := (blk_cell BK587.out 0).trans rfl
          have hfs45 := blk_frozen BK587.out 0
          have hns45_0 := NB582_587.out
          have hns45_1 := NB583_587.out
          have hns45_2 := NB584_587.out
          have hms45_0 := NB587_582.out
          have hms45_1 := NB587_583.out
          have hms45_2 := NB587_584.out
          refine skip_ (w1 := ?_) (by rfl) rfl ?_ ?_
          rotate_left
          ·go_simp
           rfl
          refine hK.out _ _ ?_
          clear hK K
          refine done_ (done_of HT_.out (by kernel_rfl)) ?_
          try go_wp2
          go_roundg k2
          case measure => have := HJ2.out; have := HK2.out; omega
          case rel => exact ⟨(wrap64 (x7_2 + 1)), (y595), (.slice Ao44 y595.length co44), z38_1, H', ⟨by have := HJ2.out; have := HK2.out; omega⟩, ⟨su (Kd.S_mono (Kd.S_far (p := ⟨gb587, 0, none⟩) (Kd.S_types HO597.out BK587.out (by decide)) (fun _ hk => hk.2) (.slice Ao44 y595.length co44)) (fun _ hk => trivial))⟩, ⟨z38_9⟩, ⟨z38_10⟩, ⟨z38_11⟩, ⟨z38_13⟩, ⟨z38_12⟩⟩
         ·rw [if_neg c33] at H
          exact absurd H (by simp)
        ·rw [if_neg c32] at H
         exact absurd H (by simp)
       ·rw [if_neg c31] at H
        exact absurd H (by simp)
      ·rw [if_neg c30] at H
       have c30b0 : decide (x7_2 < (l0_0.length : Int)) = false := decide_eq_false c30
       clear c30
       have H' := am_ H
       clear H
       have hnb46 := NB582_583.out
       have hnc46 := NB583_582.out
       have hnb47 := NB582_584.out
       have hnc47 := NB584_582.out
       have hnb48 := NB582_587.out
       have hnc48 := NB587_582.out
       have hcz49_0 : wr.cell? ⟨gb582, 0, none⟩ = some (.slice A0_0 l0_0.length c0_0) := (blk_cell BK582.out 0).trans rfl
       have hfz49_0 := blk_frozen BK582.out 0
       go_wp2
       go_loopg [8] k2 (fun kq v8 w' => ∃ (x8_3 : Int) (x588000_3 : List (List (S85))) (u588000 : Value), v8 = .int .i64 x8_3 ∧ Aside0 (spec_TurnBeside.l1 kq x8_3 l1_0 x588000_3 = some (r1, r2)) ∧ Aside0 (kq ≤ k2) ∧ Aside0 (Kd.S (Kd.slice 85 k85) 82 w' w.heap.size (fun _ => True) u588000 x588000_3) ∧ Aside0 (w'.heap[gb582]? = some (.cells #[(.slice A0_0 l0_0.length c0_0)] 35 (0, 0))) ∧ Aside0 (w'.heap[gb583]? = some (.cells #[(.slice A1_0 l1_0.length c1_0)] 35 (0, 0))) ∧ Aside0 (w'.heap[gb584]? = some (.cells #[(.slice none 0 0)] 35 (0, 0))) ∧ Aside0 (w'.heap[gb587]? = some (.cells #[u588000] 35 (0, 0))) ∧ Aside0 (Below w.heap.size w w'))
       case atStart => exact ⟨(0), (x588000_2), (u588000), z38_1, H', ⟨Nat.le_refl _⟩, ⟨su HO_588000.out⟩, ⟨bu BK582.out⟩, ⟨bu BK583.out⟩, ⟨bu BK584.out⟩, ⟨bu BK587.out⟩, ⟨z38_12⟩⟩
       case round =>
        clear H'
        obtain ⟨x8_3, x588000_3, u588000, rfl, HA, HK3, HO_588000, BK582, BK583, BK584, BK587, HB⟩ := hrel
        cases gk with
        | zero => exact absurd HA.out (by simp [spec_TurnBeside.l1])
        | succ k3 =>
         have H := HA.out
         clear HA
         simp only [spec_TurnBeside.l1] at H
         by_cases c50 : x8_3 < (l1_0.length : Int)
         ·rw [if_pos c50] at H
          have c50b0 : decide (x8_3 < (l1_0.length : Int)) = true := decide_eq_true c50
          clear c50
          obtain ⟨y598, hy598⟩ : ∃ y_ : List (S85), y_ = (([] : List (S85))) := ⟨_, rfl⟩
          replace H : (if 0 ≤ x8_3 then (if y598.length + (rd_L7 l1_0 x8_3).length < 5864062014805 then (if x588000_3.length < 5864062014805 then (spec_TurnBeside.l1 k3 (wrap64 (x8_3 + 1)) l1_0 (x588000_3 ++ [(y598 ++ (rd_L7 l1_0 x8_3))])) else (none)) else (none)) else (none)) = some (r1, r2) := by first | (rw [hy598]; with_reducible exact H) | (have H2_ := (Option.bind_some _ _).symm.trans H; rw [hy598]; with_reducible exact H2_) | (have H2_ := (Option.bind_some _ _).symm.trans H; with_reducible exact H2_) | with_reducible exact H | (rw [hy598]; exact H) | exact H
          have Ny598 := am_ hy598
          clear hy598
          by_cases c51 : 0 ≤ x8_3
          ·rw [if_pos c51] at H
           have c51b0 : decide (0 ≤ x8_3) = true := decide_eq_true c51
           clear c51
           by_cases c52 : y598.length + (rd_L7 l1_0 x8_3).length < 5864062014805
           ·rw [if_pos c52] at H
            have LMc52 := am_ c52
            clear c52
            obtain ⟨y602, hy602⟩ : ∃ y_ : List (S85), y_ = (y598 ++ (rd_L7 l1_0 x8_3)) := ⟨_, rfl⟩
            replace H : (if x588000_3.length < 5864062014805 then (spec_TurnBeside.l1 k3 (wrap64 (x8_3 + 1)) l1_0 (x588000_3 ++ [y602])) else (none)) = some (r1, r2) := by first | (rw [hy602]; with_reducible exact H) | (have H2_ := (Option.bind_some _ _).symm.trans H; rw [hy602]; with_reducible exact H2_) | (have H2_ := (Option.bind_some _ _).symm.trans H; with_reducible exact H2_) | with_reducible exact H | (rw [hy602]; exact H) | exact H
            have Ny602 := am_ hy602
            clear hy602
            by_cases c53 : x588000_3.length < 5864062014805
            ·rw [if_pos c53] at H
             have LMc53 := am_ c53
             clear c53
             obtain ⟨y605, hy605⟩ : ∃ y_ : List (List (S85)), y_ = (x588000_3 ++ [y602]) := ⟨_, rfl⟩
             replace H : (spec_TurnBeside.l1 k3 (wrap64 (x8_3 + 1)) l1_0 y605) = some (r1, r2) := by first | (rw [hy605]; with_reducible exact H) | (have H2_ := (Option.bind_some _ _).symm.trans H; rw [hy605]; with_reducible exact H2_) | (have H2_ := (Option.bind_some _ _).symm.trans H; with_reducible exact H2_) | with_reducible exact H | (rw [hy605]; exact H) | exact H
             have Ny605 := am_ hy605
             clear hy605
             have H' := am_ H
             clear H
             have hnb54 := NB583_582.out
             have hnc54 := NB582_583.out
             have hnb55 := NB583_584.out
             have hnc55 := NB584_583.out
             have hnb56 := NB583_587.out
             have hnc56 := NB587_583.out
             have hcz57_0 : wr.cell? ⟨gb583, 0, none⟩ = some (.slice A1_0 l1_0.length c1_0) := (blk_cell BK583.out 0).trans rfl
             have hfz57_0 := blk_frozen BK583.out 0
             try go_wp2
             have n0_ := am_ (Kd.S_drew HO_588000.out)
             have n1_ := am_ (blk_drew BK582.out)
             have n2_ := am_ (blk_drew BK583.out)
             have n3_ := am_ (blk_drew BK584.out)
             have n4_ := am_ (blk_drew BK587.out)
             have n5_ := am_ (below_drew1 HB.out)
             clear HO_588000 BK582 BK583 BK584 BK587 HB
             have HO_588000 := n0_
             have BK582 := n1_
             have BK583 := n2_
             have BK584 := n3_
             have BK587 := n4_
             have HB := n5_
             clear n0_ n1_ n2_ n3_ n4_ n5_
             have p601 : 0 ≤ (x8_3 : Int) := of_decide_eq_true z38_2
             have q601 : x8_3 < (l1_0.length : Int) := of_decide_eq_true z38_2
             obtain ⟨ad601, A601_0, c601_0, e601, hx601_0, hl601_0, hi601_0⟩ := at_L7 HR1_0.out x8_3 p601 q601
             have hw601_0 := hx601_0
             cases e601
             replace hx601_0 := (HB.out.cell (World.block_lt_of_cell? w _ hx601_0)).trans hx601_0
             have HR601_0 := am_ hi601_0
             have HC601_0 := am_ hl601_0
             clear hi601_0 hl601_0
             replace p601 := eq_true p601
             replace q601 := eq_true q601
             refine start_ (n := 13) (S := fun w' => w'.cell? ⟨gb587, 0, none⟩ = some (u588000) ∧ w'.cell? ⟨gb583, 0, none⟩ = some (.slice (some ad601) l1_0.length c1_0) ∧ w'.cell? (ad601.add (x8_3).toNat) = some (.slice A601_0 (rd_L7 l1_0 x8_3).length c601_0)) (ds := [12]) #[false, false, false, false, false, false, false, false, false, false, false, false, false] (by kernel_rfl) rfl rfl ⟨(blk_cell BK587.out 0).trans rfl, (blk_cell BK583.out 0).trans rfl, ((HB.out.cell (World.block_lt_of_cell? w _ hw601_0)).trans hw601_0)⟩ (fun hHeld => ?_); refine with_tabW spec_TurnBeside.tab11 spec_TurnBeside.bits11 (fun HT_ HW_ => ?_)
             generalize wr.drew = w58 at HO_588000 BK582 BK583 BK584 BK587 HB HR601_0 hx601_0 hHeld ⊢
             refine pure_ (i := 0) (N := some 45) (v := ?_) (a' := ?_) #[true, false, false, false, false, false, false, false, false, false, false, false, false] rfl rfl (any_of HT_.out (by kernel_rfl)) (fun _ _ _ h => h) (Or.inl ⟨by rfl, ?_⟩) ?_ ?_
             rotate_left
             ·intro w'
              go_simp
              with_reducible rfl
             rotate_left
             ·simp only [Act.put, List.setIfInBounds_toArray, List.set_cons_zero, List.set_cons_succ, i64_w, i32_w]
              rfl
             refine pure_ (i := 3) (N := some 48) (v := ?_) (a' := ?_) #[true, false, false, true, false, false, false, false, false, false, false, false, false] rfl rfl (any_of HT_.out (by kernel_rfl)) (fun _ _ _ h => h) (Or.inl ⟨by rfl, ?_⟩) ?_ ?_
             rotate_left
             ·intro w'
              go_simp
              with_reducible rfl
             rotate_left
             ·simp only [Act.put, List.setIfInBounds_toArray, List.set_cons_zero, List.set_cons_succ, i64_w, i32_w]
              rfl
             refine pure_ (i := 5) (N := some 50) (v := ?_) (a' := ?_) #[true, false, false, true, false, true, false, false, false, false, false, false, false] rfl rfl (any_of HT_.out (by kernel_rfl)) (fun _ _ _ h => h) (Or.inl ⟨by rfl, ?_⟩) ?_ ?_
             rotate_left
             ·intro w'
              go_simp
              with_reducible rfl
             rotate_left
             ·simp only [Act.put, List.setIfInBounds_toArray, List.set_cons_zero, List.set_cons_succ, i64_w, i32_w]
              rfl
             refine take_ (i := 1) (N := some 46) (v := ?_) (a' := ?_) #[true, true, false, true, false, true, false, false, false, false, false, false, false] rfl rfl (take_ofW HT_.out HW_.out (by kernel_rfl)) (fun _ _ _ h => h) (Or.inl ⟨by rfl, ?_⟩) hHeld ?_ ?_
             rotate_left
             ·rintro w' ⟨s0, s1, s2⟩
              go_simp
              with_reducible rfl
             rotate_left
             ·simp only [Act.put, List.setIfInBounds_toArray, List.set_cons_zero, List.set_cons_succ, i64_w, i32_w]
              rfl
             refine take_ (i := 4) (N := some 49) (v := ?_) (a' := ?_) #[true, true, false, true, true, true, false, false, false, false, false, false, false] rfl rfl (take_ofW HT_.out HW_.out (by kernel_rfl)) (fun _ _ _ h => h) (Or.inl ⟨by rfl, ?_⟩) hHeld ?_ ?_
             rotate_left
             ·rintro w' ⟨s0, s1, s2⟩
              go_simp
              with_reducible rfl
             rotate_left
             ·simp only [Act.put, List.setIfInBounds_toArray, List.set_cons_zero, List.set_cons_succ, i64_w, i32_w]
              rfl
             refine pure_ (i := 6) (N := some 51) (v := ?_) (a' := ?_) #[true, true, false, true, true, true, true, false, false, false, false, false, false] rfl rfl (any_of HT_.out (by kernel_rfl)) (fun _ _ _ h => h) (Or.inl ⟨by rfl, ?_⟩) ?_ ?_
             rotate_left
             ·intro w'
              go_simp
              with_reducible rfl
             rotate_left
             ·simp only [Act.put, List.setIfInBounds_toArray, List.set_cons_zero, List.set_cons_succ, i64_w, i32_w]
              rfl
             refine take_ (i := 7) (N := some 52) (v := ?_) (a' := ?_) #[true, true, false, true, true, true, true, true, false, false, false, false, false] rfl rfl (take_ofW HT_.out HW_.out (by kernel_rfl)) (fun _ _ _ h => h) (Or.inl ⟨by rfl, ?_⟩) hHeld ?_ ?_
             rotate_left
             ·rintro w' ⟨s0, s1, s2⟩
              go_simp
              with_reducible rfl
             rotate_left
             ·simp only [Act.put, List.setIfInBounds_toArray, List.set_cons_zero, List.set_cons_succ, i64_w, i32_w]
              rfl
             refine one_ (i := 2) (N := some 47) #[true, true, true, true, true, true, true, true, false, false, false, false, false] rfl rfl (one_of HT_.out (by kernel_rfl)) (by decide) (fun K hK => ?_)
             refine Kd.R_lit_step k85 _ 85 ?hg (N := 47) ?hd (xs := ([] : List (S85))) (inner := []) (ok := fun _ => True) (okp := fun _ => True) ?hr ?hp (fun _ hk => hk) trivial (Below.refl _ _) (Nat.le_refl _) (by simp) ?_; (case hd => rfl); (case hg => rfl); (case hr => first | (go_simp; done) | (go_simp; rfl)); (case hp => exact (Reps.none _ _))
             intro v599 w59 ho60 hb hg_ hnew_
             clear hg_ hnew_
             (first | rw [← Ny598.out] at ho60 | (simp only [Int.reduceToNat] at ho60; rw [← Ny598.out] at ho60))
             have n0_ := am_ (Kd.S_elder' (su HO_588000.out) (Kd.R_base ho60) hb)
             have n1_ := am_ (Kd.R_lower ho60 (below_size z38_12))
             have n2_ := am_ (blk_below (bu BK582.out) hb)
             have n3_ := am_ (blk_below (bu BK583.out) hb)
             have n4_ := am_ (blk_below (bu BK584.out) hb)
             have n5_ := am_ (blk_below (bu BK587.out) hb)
             have n6_ := am_ (below_step z38_12 hb)
             clear HO_588000 BK582 BK583 BK584 BK587 HB
             have HO_588000 := n0_
             have HO600 := n1_
             have BK582 := n2_
             have BK583 := n3_
             have BK584 := n4_
             have BK587 := n5_
             have HB := n6_
             clear n0_ n1_ n2_ n3_ n4_ n5_ n6_ hb ho60
             refine hK.out _ _ ⟨(blk_cell BK587.out 0).trans rfl, (blk_cell BK583.out 0).trans rfl, ((HB.out.cell (World.block_lt_of_cell? w _ hw601_0)).trans hw601_0)⟩ (fun hHeld => ?_)
             clear hK K
             refine norm_ (a' := ?_) ?_ ?_
             rotate_left
             ·show Act.put _ (some 47) _ = _
              simp only [Act.put, List.setIfInBounds_toArray, List.set_cons_zero, List.set_cons_succ, i64_w, i32_w]
              rfl
             refine one_ (i := 8) (N := some 53) #[true, true, true, true, true, true, true, true, true, false, false, false, false] rfl rfl (one_of HT_.out (by kernel_rfl)) (by decide) (fun K hK => ?_)
             refine Kd.R_append_rows_step k85 (w0 := w) w.heap.size (by rfl) (.tmp 47) (.tmp 52) 82 85 (.agg #[(.int .i64 0), (.int .i64 0), (.int .i64 0)]) 24 rfl Try.underlying82 info85 rfl (by decide) (by omega) v599 y598 (rd_L7 l1_0 x8_3) _ _ _ (fun _ => True) (fun _ => False) rfl rfl ?aO ?aR (fun _ _ h => h) (fun _ h => h.elim) ?aF ?aB ?aS ?aL ?_
             (case aR => repeat (first | exact (Kd.C_below HR601_0.out HB.out) | (with_reducible refine Kd.C_alloc ?_ _) | (with_reducible refine Kd.C_drewN ?_ _) | (with_reducible refine Kd.C_drew ?_)))
             (case aB => exact z38_12)
             (case aF => exact (fun _ _ => trivial))
             (case aO => exact (ru HO600.out))
             (case aS => exact (below_size z38_12))
             (case aL => have := LMc52.out; omega)
             intro v603 w61 ho hb hg hat
             rw [← Ny602.out] at ho
             have n0_ := am_ (Kd.S_after (ok := (fun _ => True)) (su HO_588000.out) hg hat)
             have n1_ := am_ (blk_grown (bu BK582.out) hg (Kd.R_ne HO600.out BK582.out (by decide)))
             have n2_ := am_ (blk_grown (bu BK583.out) hg (Kd.R_ne HO600.out BK583.out (by decide)))
             have n3_ := am_ (blk_grown (bu BK584.out) hg (Kd.R_ne HO600.out BK584.out (by decide)))
             have n4_ := am_ (blk_grown (bu BK587.out) hg (Kd.R_ne HO600.out BK587.out (by decide)))
             have n5_ := am_ (hb)
             have n6_ := am_ (ho)
             clear HO_588000 BK582 BK583 BK584 BK587 HB HO600
             have HO_588000 := n0_
             have BK582 := n1_
             have BK583 := n2_
             have BK584 := n3_
             have BK587 := n4_
             have HB := n5_
             have HO604 := n6_
             clear n0_ n1_ n2_ n3_ n4_ n5_ n6_ ho hb hg hat
             obtain ⟨Ao63, co63, eo63⟩ := Kd.R_slice HO604.out
             (first | subst eo63 | (injection eo63 with f1_ f2_ f3_; have f4_ := f1_.symm; have f5_ := f3_.symm; clear f1_ f2_ f3_; subst f4_; subst f5_))
             refine hK.out _ _ ⟨(blk_cell BK587.out 0).trans rfl, (blk_cell BK583.out 0).trans rfl, ((HB.out.cell (World.block_lt_of_cell? w _ hw601_0)).trans hw601_0)⟩ (fun hHeld => ?_)
             clear hK K
             refine norm_ (a' := ?_) ?_ ?_
             rotate_left
             ·show Act.put _ (some 53) _ = _
              simp only [Act.put, List.setIfInBounds_toArray, List.set_cons_zero, List.set_cons_succ, i64_w, i32_w]
              rfl
             refine one_ (i := 9) (N := some 54) #[true, true, true, true, true, true, true, true, true, true, false, false, false] rfl rfl (one_of HT_.out (by kernel_rfl)) (by decide) (fun K hK => ?_)
             refine value_ (w1 := ?_) (v := ?_) (by rfl) rfl ?_ ?_
             rotate_left 2
             ·go_simp
              constructor
              ·rfl
              ·rfl
             refine hK.out _ _ ⟨(blk_cell (blk_alloc BK587.out _) 0).trans rfl, (blk_cell (blk_alloc BK583.out _) 0).trans rfl, (World.cell?_alloc_lt _ _ _ (World.block_lt_of_cell? _ _ (((HB.out.cell (World.block_lt_of_cell? w _ hw601_0)).trans hw601_0)))).trans (((HB.out.cell (World.block_lt_of_cell? w _ hw601_0)).trans hw601_0))⟩ (fun hHeld => ?_)
             clear hK K
             refine norm_ (a' := ?_) ?_ ?_
             rotate_left
             ·show Act.put _ (some 54) _ = _
              simp only [Act.put, List.setIfInBounds_toArray, List.set_cons_zero, List.set_cons_succ, i64_w, i32_w]
              rfl
             refine one_ (i := 10) (N := some 55) #[true, true, true, true, true, true, true, true, true, true, true, false, false] rfl rfl (one_of HT_.out (by kernel_rfl)) (by decide) (fun K hK => ?_)
             refine Kd.S_append_step (Kd.slice 85 k85) (w0 := w) w.heap.size (by rfl) (.tmp 46) (.tmp 54) 33 82 (.slice none 0 0) 24 rfl Try.underlying33 info82 rfl (by decide) (by omega) u588000 x588000_3 y602 [.slice Ao63 y602.length co63] (fun _ => True) (fun k_ => some k_ = (.slice Ao63 y602.length co63 : Value).ownBlock) rfl rfl ?aP (fun k_ hk_ => ((Kd.R_mono (ok' := fun k_ => ((fun _ => True)) k_ ∧ some k_ ≠ (u588000 : Value).ownBlock) (Kd.R_apart' (HO604.out) (Kd.S_typed HO_588000.out) (by decide)) (fun k_ hk => ⟨trivial, hk.2⟩))).1 k_ hk_.symm) ?aF ?aO ?aB ?aS ?aL ?_
             (case aP => exact Kd.M_row (Kd.R_mono (Kd.R_tight rfl (Kd.R_mono (ok' := fun k_ => ((fun _ => True)) k_ ∧ some k_ ≠ (u588000 : Value).ownBlock) (Kd.R_apart' (HO604.out) (Kd.S_typed HO_588000.out) (by decide)) (fun k_ hk => ⟨trivial, hk.2⟩))) (fun _ h_ => h_)))
             (case aB => exact z38_12)
             (case aF => exact (fun _ _ => trivial))
             (case aO => exact (su (Kd.S_mono HO_588000.out (fun k_ hk => ⟨trivial, fun e_ => hk.2 e_⟩))))
             (case aS => exact (below_size z38_12))
             (case aL => have := LMc53.out; omega)
             intro v606 w62 ho hb hg hat
             rw [← Ny605.out] at ho
             have n0_ := am_ (blk_grown (bu BK582.out) hg (Kd.S_ne HO_588000.out BK582.out (by decide)))
             have n1_ := am_ (blk_grown (bu BK583.out) hg (Kd.S_ne HO_588000.out BK583.out (by decide)))
             have n2_ := am_ (blk_grown (bu BK584.out) hg (Kd.S_ne HO_588000.out BK584.out (by decide)))
             have n3_ := am_ (blk_grown (bu BK587.out) hg (Kd.S_ne HO_588000.out BK587.out (by decide)))
             have n4_ := am_ (hb)
             have n5_ := am_ (ho)
             clear BK582 BK583 BK584 BK587 HB HO_588000 HO604
             have BK582 := n0_
             have BK583 := n1_
             have BK584 := n2_
             have BK587 := n3_
             have HB := n4_
             have HO607 := n5_
             clear n0_ n1_ n2_ n3_ n4_ n5_ ho hb hg hat
             obtain ⟨Ao64, co64, eo64⟩ := Kd.S_slice HO607.out
             (first | subst eo64 | (injection eo64 with f1_ f2_ f3_; have f4_ := f1_.symm; have f5_ := f3_.symm; clear f1_ f2_ f3_; subst f4_; subst f5_))
             refine hK.out _ _ ⟨(blk_cell BK587.out 0).trans rfl, (blk_cell BK583.out 0).trans rfl, ((HB.out.cell (World.block_lt_of_cell? w _ hw601_0)).trans hw601_0)⟩ (fun hHeld => ?_)
             clear hK K
             refine norm_ (a' := ?_) ?_ ?_
             rotate_left
             ·show Act.put _ (some 55) _ = _
              simp only [Act.put, List.setIfInBounds_toArray, List.set_cons_zero, List.set_cons_succ, i64_w, i32_w]
              rfl
             refine pure_ (i := 11) (N := some 56) (v := ?_) (a' := ?_) #[true, true, true, true, true, true, true, true, true, true, true, true, false] rfl rfl (any_of HT_.out (by kernel_rfl)) (fun _ _ _ h => h) (Or.inl ⟨by rfl, ?_⟩) ?_ ?_
             rotate_left
             ·intro w'
              go_simp
              with_reducible rfl
             rotate_left
             ·simp only [Act.put, List.setIfInBounds_toArray, List.set_cons_zero, List.set_cons_succ, i64_w, i32_w]
              rfl
             refine last_ (i := 12) (N := none) #[true, true, true, true, true, true, true, true, true, true, true, true, true] rfl rfl (one_of HT_.out (by kernel_rfl)) (by decide) (fun K hK => ?_)
             have hs65 : w62.cell? ⟨gb587, 0, none⟩ = some (u588000) := (blk_cell BK587.out 0).trans rfl
             have hfs65 := blk_frozen BK587.out 0
             have hns65_0 := NB582_587.out
             have hns65_1 := NB583_587.out
             have hns65_2 := NB584_587.out
             have hms65_0 := NB587_582.out
             have hms65_1 := NB587_583.out
             have hms65_2 := NB587_584.out
             refine skip_ (w1 := ?_) (by rfl) rfl ?_ ?_
             rotate_left
             ·go_simp
              rfl
             refine hK.out _ _ ?_
             clear hK K
             refine done_ (done_of HT_.out (by kernel_rfl)) ?_
             try go_wp2
             go_roundg k3
             case measure => have := HJ2.out; have := HK2.out; have := HK3.out; omega
             case rel => exact ⟨(wrap64 (x8_3 + 1)), (y605), (.slice Ao64 y605.length co64), z38_1, H', ⟨by have := HJ2.out; have := HK2.out; have := HK3.out; omega⟩, ⟨su (Kd.S_mono (Kd.S_far (p := ⟨gb587, 0, none⟩) (Kd.S_types HO607.out BK587.out (by decide)) (fun _ hk => hk.2) (.slice Ao64 y605.length co64)) (fun _ hk => trivial))⟩, ⟨z38_9⟩, ⟨z38_10⟩, ⟨z38_11⟩, ⟨z38_13⟩, ⟨z38_12⟩⟩
            ·rw [if_neg c53] at H
             exact absurd H (by simp)
           ·rw [if_neg c52] at H
            exact absurd H (by simp)
          ·rw [if_neg c51] at H
           exact absurd H (by simp)
         ·rw [if_neg c50] at H
          have c50b0 : decide (x8_3 < (l1_0.length : Int)) = false := decide_eq_false c50
          clear c50
          replace H := Option.bind_eq_some_iff.mp H
          obtain ⟨t608, A660, H⟩ := H
          replace H : (if t608 = true then (some (x588000_3, true)) else (some (([] : List (List (S85))), false))) = some (r1, r2) := H
          have A66 := am_ A660
          clear A660
          by_cases c67 : t608 = true
          ·subst c67
           have H1 : (some (x588000_3, true)) = some (r1, r2) := by rw [if_pos rfl] at H; exact H
           clear H
           have H := H1
           clear H1
           simp only [Option.some.injEq, Prod.mk.injEq] at H
           obtain ⟨rfl, rfl⟩ := H
           have hnb68 := NB583_582.out
           have hnc68 := NB582_583.out
           have hnb69 := NB583_584.out
           have hnc69 := NB584_583.out
           have hnb70 := NB583_587.out
           have hnc70 := NB587_583.out
           have hcz71_0 : wr.cell? ⟨gb583, 0, none⟩ = some (.slice A1_0 l1_0.length c1_0) := (blk_cell BK583.out 0).trans rfl
           have hfz71_0 := blk_frozen BK583.out 0
           have hnb72 := NB587_582.out
           have hnc72 := NB582_587.out
           have hnb73 := NB587_584.out
           have hnc73 := NB584_587.out
           have hcz74_0 : wr.cell? ⟨gb587, 0, none⟩ = some (u588000) := (blk_cell BK587.out 0).trans rfl
           have hfz74_0 := blk_frozen BK587.out 0
           obtain ⟨Ao75, co75, eo75⟩ := Kd.S_slice HO_588000.out
           subst eo75
           go_wp2_with (first | ((with_reducible refine gate_callee (f := 43) rfl ?_); refine goesL_ (some 58) rfl rfl Try.func43 (by kernel_rfl) rfl #[.agg #[.slice Ao75 x588000_3.length co75]] rfl (by (try simp only [List.map_toArray, List.map_cons, List.map_nil]); first | done | rfl | (simp only [List.length_drop, List.length_take]; rfl)) ?_; (with_reducible refine (spec_ProgOk.calls k3 _ _ x588000_3 true _ ?side1 ?side2 A66.out).mono ?_); (case side1 => repeat (first | exact (Kd.S_reads' HO_588000.out).2.2 | (with_reducible refine Kd.C_alloc ?_ _) | (with_reducible refine Kd.C_drewN ?_ _) | (with_reducible refine Kd.C_drew ?_))); (case side2 => exact (Kd.S_reads' HO_588000.out).2.1); rintro e w76 ⟨rfl, hb⟩; refine ⟨_, rfl, ?_⟩; have n0_ := am_ (Kd.S_below (su HO_588000.out) hb); have n1_ := am_ (blk_below (bu BK582.out) hb); have n2_ := am_ (blk_below (bu BK583.out) hb); have n3_ := am_ (blk_below (bu BK584.out) hb); have n4_ := am_ (blk_below (bu BK587.out) hb); have n5_ := am_ (below_step z38_12 hb); clear HO_588000 BK582 BK583 BK584 BK587 HB; have HO_588000 := n0_; have BK582 := n1_; have BK583 := n2_; have BK584 := n3_; have BK587 := n4_; have HB := n5_; clear n0_ n1_ n2_ n3_ n4_ n5_; (try clear hb); (try clear hb2); (try clear hk); (try clear hi); have hcz77_0 : w76.cell? ⟨gb587, 0, none⟩ = some (.slice Ao75 x588000_3.length co75) := (blk_cell BK587.out 0).trans rfl; have hfz77_0 := blk_frozen BK587.out 0; have hnb78 := NB584_582.out; have hnc78 := NB582_584.out; have hcz79_0 : w76.cell? ⟨gb584, 0, none⟩ = some (.slice none 0 0) := (blk_cell BK584.out 0).trans rfl; have hfz79_0 := blk_frozen BK584.out 0))
           refine bodyPost_ret (results_ct rfl _ _ gb584 35 #[.slice Ao75 x588000_3.length co75] (0, 0) _ rfl z38_14 Try.underlying35 rfl (by kernel_rfl)) rfl ?_
           exact ⟨_, z38_3, su (Kd.S_mono (Kd.S_far (p := ⟨gb584, 0, none⟩) (Kd.S_types HO_588000.out BK584.out (by decide)) (fun _ hk => hk.2) (.slice Ao75 x588000_3.length co75)) (fun _ hk => trivial)), z38_12⟩
          ·replace c67 := Bool.eq_false_iff.mpr c67
           subst c67
           have H1 : (some (([] : List (List (S85))), false)) = some (r1, r2) := by rw [if_neg (show ¬ (false = true) by decide)] at H; exact H
           clear H
           have H := H1
           clear H1
           simp only [Option.some.injEq, Prod.mk.injEq] at H
           obtain ⟨rfl, rfl⟩ := H
           have hnb80 := NB583_582.out
           have hnc80 := NB582_583.out
           have hnb81 := NB583_584.out
           have hnc81 := NB584_583.out
           have hnb82 := NB583_587.out
           have hnc82 := NB587_583.out
           have hcz83_0 : wr.cell? ⟨gb583, 0, none⟩ = some (.slice A1_0 l1_0.length c1_0) := (blk_cell BK583.out 0).trans rfl
           have hfz83_0 := blk_frozen BK583.out 0
           have hnb84 := NB587_582.out
           have hnc84 := NB582_587.out
           have hnb85 := NB587_584.out
           have hnc85 := NB584_587.out
           have hcz86_0 : wr.cell? ⟨gb587, 0, none⟩ = some (u588000) := (blk_cell BK587.out 0).trans rfl
           have hfz86_0 := blk_frozen BK587.out 0
           obtain ⟨Ao87, co87, eo87⟩ := Kd.S_slice HO_588000.out
           subst eo87
           go_wp2_with (first | ((with_reducible refine gate_callee (f := 43) rfl ?_); refine goesL_ (some 58) rfl rfl Try.func43 (by kernel_rfl) rfl #[.agg #[.slice Ao87 x588000_3.length co87]] rfl (by (try simp only [List.map_toArray, List.map_cons, List.map_nil]); first | done | rfl | (simp only [List.length_drop, List.length_take]; rfl)) ?_; (with_reducible refine (spec_ProgOk.calls k3 _ _ x588000_3 false _ ?side1 ?side2 A66.out).mono ?_); (case side1 => repeat (first | exact (Kd.S_reads' HO_588000.out).2.2 | (with_reducible refine Kd.C_alloc ?_ _) | (with_reducible refine Kd.C_drewN ?_ _) | (with_reducible refine Kd.C_drew ?_))); (case side2 => exact (Kd.S_reads' HO_588000.out).2.1); rintro e w88 ⟨rfl, hb⟩; refine ⟨_, rfl, ?_⟩; have n0_ := am_ (Kd.S_below (su HO_588000.out) hb); have n1_ := am_ (blk_below (bu BK582.out) hb); have n2_ := am_ (blk_below (bu BK583.out) hb); have n3_ := am_ (blk_below (bu BK584.out) hb); have n4_ := am_ (blk_below (bu BK587.out) hb); have n5_ := am_ (below_step z38_12 hb); clear HO_588000 BK582 BK583 BK584 BK587 HB; have HO_588000 := n0_; have BK582 := n1_; have BK583 := n2_; have BK584 := n3_; have BK587 := n4_; have HB := n5_; clear n0_ n1_ n2_ n3_ n4_ n5_; (try clear hb); (try clear hb2); (try clear hk); (try clear hi); have hnb89 := NB584_582.out; have hnc89 := NB582_584.out; have hcz90_0 : w88.cell? ⟨gb584, 0, none⟩ = some (.slice none 0 0) := (blk_cell BK584.out 0).trans rfl; have hfz90_0 := blk_frozen BK584.out 0))
           refine bodyPost_ret (results_ct rfl _ _ gb584 35 #[.slice none 0 0] (0, 0) _ rfl z38_14 Try.underlying35 rfl (by kernel_rfl)) rfl ?_
           exact ⟨_, z38_3, z38_5, z38_12⟩

end Go.Proofs.Ytefkbmhkhpekjaa.PB

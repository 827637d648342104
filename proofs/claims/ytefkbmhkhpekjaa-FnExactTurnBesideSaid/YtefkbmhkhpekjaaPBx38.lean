-- Written by this session's wip/myprint.py (the kit's print.py, with hand-written chunks). Lean checks it.
import Derived.Test.YtefkbmhkhpekjaaPBx0
import Derived.Test.YtefkbmhkhpekjaaPBx43
namespace Go.Proofs.Ytefkbmhkhpekjaa.PB
open Go.RowKit Go.Proofs.YtefkbmhkhpekjaaW.PrintWords Go.Proofs.YtefkbmhkhpekjaaW.PrintLast Go.Proofs.YtefkbmhkhpekjaaW.PrintMore
attribute [local go_sem] max2_int min2_int max_two min_two max_three min_three max_four min_four   -- for this text's walks alone
open Go.Proofs.YtefkbmhkhpekjaaMine
set_option linter.unusedVariables false
set_option linter.unusedSimpArgs false

theorem z38_1 {p : Prop} (h : p := by first | rfl | (simp; done) | (simp [*]; done)) : p := h
theorem z38_2 {p : Prop} (h : p := by first | (with_reducible assumption) | assumption) : p := h
theorem z38_3 {p : Prop} (h : p := by first | rfl | (simp [errW_none, errW_some] <;> rfl) | (simp [*, errW_none, errW_some] <;> rfl)) : p := h
theorem z38_4 {p : Prop} (h : p := by repeat (first | (with_reducible first | exact HB.out | apply below_alloc | apply pw_below_drewN | apply below_drew1) | exact HB.out)) : p := h
theorem z38_5 {p : Prop} (h : p := by first | exact Kd.S_nil _ _ _ _ _ | exact Kd.N_nil _ _ _ _ _ | exact Kd.V_nil _ _ _ _ _ | exact Kd.Q_nil _ _ _ _ _ | exact Kd.R_nil _ _ _ _ _) : p := h
theorem z38_6 {p : Prop} (h : p := by repeat (first | (with_reducible first | exact HB.out | apply below_alloc | apply pw_below_drewN | apply below_drew1 | refine below_set ?_ GE630.out) | exact HB.out)) : p := h
theorem z38_7 {p : Prop} (h : p := by repeat (first | (with_reducible first | exact HB.out | apply below_alloc | apply pw_below_drewN | apply below_drew1 | refine below_set ?_ GE630.out | refine below_set ?_ GE631.out) | exact HB.out)) : p := h
theorem z38_8 {p : Prop} (h : p := by repeat (first | (with_reducible first | exact HB.out | apply below_alloc | apply pw_below_drewN | apply below_drew1 | refine below_set ?_ GE630.out | refine below_set ?_ GE631.out | refine below_set ?_ GE632.out) | exact HB.out)) : p := h
theorem z38_9 {p : Prop} (h : p := by (with_reducible repeat (first | refine blk_drewN ?_ _ | refine blk_drew ?_ | refine blk_alloc ?_ _)); refine blk_far ?_ NB630_635.out _; (with_reducible repeat (first | refine blk_drewN ?_ _ | refine blk_drew ?_ | refine blk_alloc ?_ _)); exact BK630.out) : p := h
theorem z38_10 {p : Prop} (h : p := by (with_reducible repeat (first | refine blk_drewN ?_ _ | refine blk_drew ?_ | refine blk_alloc ?_ _)); refine blk_far ?_ NB631_635.out _; (with_reducible repeat (first | refine blk_drewN ?_ _ | refine blk_drew ?_ | refine blk_alloc ?_ _)); exact BK631.out) : p := h
theorem z38_11 {p : Prop} (h : p := by (with_reducible repeat (first | refine blk_drewN ?_ _ | refine blk_drew ?_ | refine blk_alloc ?_ _)); refine blk_far ?_ NB632_635.out _; (with_reducible repeat (first | refine blk_drewN ?_ _ | refine blk_drew ?_ | refine blk_alloc ?_ _)); exact BK632.out) : p := h
theorem z38_12 {p : Prop} (h : p := by repeat (first | (with_reducible first | exact HB.out | apply below_alloc | apply pw_below_drewN | apply below_drew1 | refine below_set ?_ GE630.out | refine below_set ?_ GE631.out | refine below_set ?_ GE632.out | refine below_set ?_ GE635.out) | exact HB.out)) : p := h
theorem z38_13 {p : Prop} (h : p := by (with_reducible repeat (first | refine blk_drewN ?_ _ | refine blk_drew ?_ | refine blk_alloc ?_ _)); refine blk_put (cs := #[u636000]) ?_ 0 _ rfl; (with_reducible repeat (first | refine blk_drewN ?_ _ | refine blk_drew ?_ | refine blk_alloc ?_ _)); exact BK635.out) : p := h
theorem z38_14 {p : Prop} (h : p := by (with_reducible repeat (first | refine blk_drewN ?_ _ | refine blk_drew ?_ | refine blk_alloc ?_ _)); refine blk_put (cs := #[.slice none 0 0]) ?_ 0 _ rfl; (with_reducible repeat (first | refine blk_drewN ?_ _ | refine blk_drew ?_ | refine blk_alloc ?_ _)); exact BK632.out) : p := h
/-! ### spec_TurnBeside: function 38 -/
mutual
def spec_TurnBeside.j0 : Nat → Bool → List (List (S85)) → List (List (S85)) → Option ((List (List (S85))) × Bool)
  | 0, _, _, _ => none
  | k + 1, x16, x631000, x632000 => if x16 = true then (some (([] : List (List (S85))), false)) else (spec_TurnBeside.l0 k 0 x631000 x632000 ([] : List (List (S85))))
def spec_TurnBeside.l0 : Nat → Int → List (List (S85)) → List (List (S85)) → List (List (S85)) → Option ((List (List (S85))) × Bool)
  | 0, _, _, _, _ => none
  | k + 1, x7, x631000, x632000, x636000 => if x7 < (x631000.length : Int) then ((some (([] : List (S85)) : List (S85))).bind fun y636 => (if 0 ≤ x7 then (if y636.length + (rd_L7 x631000 x7).length < 5864062014805 then (if x636000.length < 5864062014805 then (spec_TurnBeside.l0 k (wrap64 (x7 + 1)) x631000 x632000 (x636000 ++ [(y636 ++ (rd_L7 x631000 x7))])) else (none)) else (none)) else (none))) else (spec_TurnBeside.l1 k 0 x632000 x636000)
def spec_TurnBeside.l1 : Nat → Int → List (List (S85)) → List (List (S85)) → Option ((List (List (S85))) × Bool)
  | 0, _, _, _ => none
  | k + 1, x8, x632000, x636000 => if x8 < (x632000.length : Int) then ((some (([] : List (S85)) : List (S85))).bind fun y646 => (if 0 ≤ x8 then (if y646.length + (rd_L7 x632000 x8).length < 5864062014805 then (if x636000.length < 5864062014805 then (spec_TurnBeside.l1 k (wrap64 (x8 + 1)) x632000 (x636000 ++ [(y646 ++ (rd_L7 x632000 x8))])) else (none)) else (none)) else (none))) else ((spec_ProgOk.f k x636000).bind fun t656 => (if t656 = true then (some (x636000, true)) else (some (([] : List (List (S85))), false))))
end
def spec_TurnBeside.f (k : Nat) (l0_0 : List (List (S85))) (l1_0 : List (List (S85))) : Option ((List (List (S85))) × Bool) := (spec_ProgOk.f k l0_0).bind fun t633 => (if t633 = true then ((spec_ProgOk.f k l1_0).bind fun t634 => (spec_TurnBeside.j0 k (!t634) l0_0 l1_0)) else (spec_TurnBeside.j0 k true l0_0 l1_0))
theorem spec_TurnBeside.mono_l : ∀ k, (∀ y0 y1 y2, LeO (spec_TurnBeside.j0 k y0 y1 y2) (spec_TurnBeside.j0 (k + 1) y0 y1 y2)) ∧ (∀ y0 y1 y2 y3, LeO (spec_TurnBeside.l0 k y0 y1 y2 y3) (spec_TurnBeside.l0 (k + 1) y0 y1 y2 y3)) ∧ (∀ y0 y1 y2, LeO (spec_TurnBeside.l1 k y0 y1 y2) (spec_TurnBeside.l1 (k + 1) y0 y1 y2))
  | 0 => ⟨fun _ _ _ r h => by simp [spec_TurnBeside.j0] at h, fun _ _ _ _ r h => by simp [spec_TurnBeside.l0] at h, fun _ _ _ r h => by simp [spec_TurnBeside.l1] at h⟩
  | k + 1 => by
    obtain ⟨ih0, ih1, ih2⟩ := spec_TurnBeside.mono_l k
    refine ⟨?_, ?_, ?_⟩
    · intro y0 y1 y2
      unfold spec_TurnBeside.j0
      repeat' first
      | (with_reducible exact ih0 _ _ _)
      | (with_reducible exact ih1 _ _ _ _)
      | (with_reducible exact ih2 _ _ _)
      | (with_reducible exact spec_ProgOk.mono _ _)
      | (with_reducible exact LeO.refl _)
      | (with_reducible exact LeO.none _)
      | (with_reducible refine LeO.ite ?_ ?_)
      | (with_reducible refine LeO.bind ?_ (fun _ => ?_))
      | exact ih0 _ _ _
      | exact ih1 _ _ _ _
      | exact ih2 _ _ _
      | exact spec_ProgOk.mono _ _
      | exact LeO.none _
      | refine LeO.ite ?_ ?_
      | refine LeO.bind ?_ (fun _ => ?_)
    · intro y0 y1 y2 y3
      unfold spec_TurnBeside.l0
      repeat' first
      | (with_reducible exact ih0 _ _ _)
      | (with_reducible exact ih1 _ _ _ _)
      | (with_reducible exact ih2 _ _ _)
      | (with_reducible exact spec_ProgOk.mono _ _)
      | (with_reducible exact LeO.refl _)
      | (with_reducible exact LeO.none _)
      | (with_reducible refine LeO.ite ?_ ?_)
      | (with_reducible refine LeO.bind ?_ (fun _ => ?_))
      | exact ih0 _ _ _
      | exact ih1 _ _ _ _
      | exact ih2 _ _ _
      | exact spec_ProgOk.mono _ _
      | exact LeO.none _
      | refine LeO.ite ?_ ?_
      | refine LeO.bind ?_ (fun _ => ?_)
    · intro y0 y1 y2
      unfold spec_TurnBeside.l1
      repeat' first
      | (with_reducible exact ih0 _ _ _)
      | (with_reducible exact ih1 _ _ _ _)
      | (with_reducible exact ih2 _ _ _)
      | (with_reducible exact spec_ProgOk.mono _ _)
      | (with_reducible exact LeO.refl _)
      | (with_reducible exact LeO.none _)
      | (with_reducible refine LeO.ite ?_ ?_)
      | (with_reducible refine LeO.bind ?_ (fun _ => ?_))
      | exact ih0 _ _ _
      | exact ih1 _ _ _ _
      | exact ih2 _ _ _
      | exact spec_ProgOk.mono _ _
      | exact LeO.none _
      | refine LeO.ite ?_ ?_
      | refine LeO.bind ?_ (fun _ => ?_)
theorem spec_TurnBeside.mono : ∀ a0 a1 k, LeO (spec_TurnBeside.f k a0 a1) (spec_TurnBeside.f (k + 1) a0 a1) := by
  intro a0 a1 k
  obtain ⟨ih0, ih1, ih2⟩ := spec_TurnBeside.mono_l k
  unfold spec_TurnBeside.f
  repeat' first
      | (with_reducible exact ih0 _ _ _)
      | (with_reducible exact ih1 _ _ _ _)
      | (with_reducible exact ih2 _ _ _)
      | (with_reducible exact spec_ProgOk.mono _ _)
      | (with_reducible exact LeO.refl _)
      | (with_reducible exact LeO.none _)
      | (with_reducible refine LeO.ite ?_ ?_)
      | (with_reducible refine LeO.bind ?_ (fun _ => ?_))
      | exact ih0 _ _ _
      | exact ih1 _ _ _ _
      | exact ih2 _ _ _
      | exact spec_ProgOk.mono _ _
      | exact LeO.none _
      | refine LeO.ite ?_ ?_
      | refine LeO.bind ?_ (fun _ => ?_)
def spec_TurnBeside.T7 : Bool × List (List Nat × List Nat) := (true, [([], []), ([0], [0]), ([], []), ([], []), ([3], [3]), ([], []), ([4, 5], [4, 5]), ([6], [6]), ([2, 7], [2, 7]), ([8], [8]), ([1, 9, 8], [1, 9]), ([0, 1, 2, 3, 4, 5, 6, 7, 8, 9, 10], []), ([11, 10, 10, 0, 1, 2, 3, 4, 5, 6, 7, 8, 9, 10], [10, 11])])
def spec_TurnBeside.B7 : List Nat := [0, 1, 0, 0, 8, 0, 56, 120, 252, 508, 1023, 2047, 4095]
theorem spec_TurnBeside.tab7 : rtab .any (opsOf Try.f38 7) = spec_TurnBeside.T7 := by kernel_rfl
theorem spec_TurnBeside.bits7 : waitsOk spec_TurnBeside.T7.2 spec_TurnBeside.B7 = true := by kernel_rfl
def spec_TurnBeside.T11 : Bool × List (List Nat × List Nat) := (true, [([], []), ([0], [0]), ([], []), ([], []), ([3], [3]), ([], []), ([4, 5], [4, 5]), ([6], [6]), ([2, 7], [2, 7]), ([8], [8]), ([1, 9, 8], [1, 9]), ([0, 1, 2, 3, 4, 5, 6, 7, 8, 9, 10], []), ([11, 10, 10, 0, 1, 2, 3, 4, 5, 6, 7, 8, 9, 10], [10, 11])])
def spec_TurnBeside.B11 : List Nat := [0, 1, 0, 0, 8, 0, 56, 120, 252, 508, 1023, 2047, 4095]
theorem spec_TurnBeside.tab11 : rtab .any (opsOf Try.f38 11) = spec_TurnBeside.T11 := by kernel_rfl
theorem spec_TurnBeside.bits11 : waitsOk spec_TurnBeside.T11.2 spec_TurnBeside.B11 = true := by kernel_rfl
set_option maxHeartbeats 8000000 in
set_option maxRecDepth 100000 in
theorem spec_TurnBeside.calls (k : Nat) (A0_0 : Option Addr) (c0_0 : Nat) (l0_0 : List (List (S85))) (A1_0 : Option Addr) (c1_0 : Nat) (l1_0 : List (List (S85))) (r1 : List (List (S85))) (r2 : Bool) (w : World) (hr0_0 : Kd.C (Kd.slice 85 k85) w A0_0 l0_0.length l0_0) (hc0_0 : l0_0.length ≤ c0_0) (hr1_0 : Kd.C (Kd.slice 85 k85) w A1_0 l1_0.length l1_0) (hc1_0 : l1_0.length ≤ c1_0) (h : spec_TurnBeside.f k l0_0 l1_0 = some (r1, r2)) :
  Calls Try.prog 38 #[.agg #[.slice A0_0 l0_0.length c0_0], .agg #[.slice A1_0 l1_0.length c1_0]] w fun e w' => ∃ v0_ : Value, e = .returned (.tuple #[.agg #[v0_], .bool r2]) ∧ Kd.S (Kd.slice 85 k85) 82 w' w.heap.size (fun _ => True) v0_ r1 ∧ Below w.heap.size w w' := by
 have hu35 := Try.underlying35
 have HR0_0 := am_ hr0_0
 have HC0_0 := am_ hc0_0
 clear hr0_0 hc0_0
 have HR1_0 := am_ hr1_0
 have HC1_0 := am_ hc1_0
 clear hr1_0 hc1_0
 have HB := am_ (Below.refl w.heap.size w)
 have H : ((spec_ProgOk.f k l0_0).bind fun t633 => (if t633 = true then ((spec_ProgOk.f k l1_0).bind fun t634 => (spec_TurnBeside.j0 k (!t634) l0_0 l1_0)) else (spec_TurnBeside.j0 k true l0_0 l1_0))) = some (r1, r2) := h
 clear h
 have HC3 := am_ H
 clear H
 go_enter Try.func38, Try.ntmps38
 go_upto_region 1 with (first | ((with_reducible refine gate_dst (N := 2) rfl ?_); refine box_event ?hg (N := 2) ?hd (cs := #[.slice A0_0 l0_0.length c0_0]) (t := 35) ?hr ?_; (case hd => rfl); (case hg => rfl); (case hr => first | (go_simp; done) | (go_simp; rfl)); intro gb630 hg w4 hbox hb; have n0_ := am_ (below_step z38_4 hb); have n1_ := am_ (hbox); have n2_ := am_ (by rw [hg]; exact (below_size z38_4) : w.heap.size ≤ gb630); have n3_ := am_ (by rw [hg]; exact (below_size z38_4) : w.heap.size ≤ gb630); clear HB; have HB := n0_; have BK630 := n1_; have GW630 := n2_; have GE630 := n3_; clear n0_ n1_ n2_ n3_; clear hb hbox hg) | ((with_reducible refine gate_dst (N := 3) rfl ?_); refine box_event ?hg (N := 3) ?hd (cs := #[.slice A1_0 l1_0.length c1_0]) (t := 35) ?hr ?_; (case hd => rfl); (case hg => rfl); (case hr => first | (go_simp; done) | (go_simp; rfl)); intro gb631 hg w5 hbox hb; have n0_ := am_ (blk_below (bu BK630.out) hb); have n1_ := am_ (below_step z38_6 hb); have n2_ := am_ (hbox); have n3_ := am_ (by rw [hg]; exact (below_size z38_6) : w.heap.size ≤ gb631); have n4_ := am_ (by rw [hg]; exact (below_size z38_6) : w.heap.size ≤ gb631); have n5_ := am_ (by rw [hg]; exact Nat.ne_of_lt (blk_lt (bu BK630.out)) : gb630 ≠ gb631); have n6_ := am_ (by rw [hg]; exact Nat.ne_of_gt (blk_lt (bu BK630.out)) : gb631 ≠ gb630); clear BK630 HB; have BK630 := n0_; have HB := n1_; have BK631 := n2_; have GW631 := n3_; have GE631 := n4_; have NB630_631 := n5_; have NB631_630 := n6_; clear n0_ n1_ n2_ n3_ n4_ n5_ n6_; clear hb hbox hg) | ((with_reducible refine gate_dst (N := 4) rfl ?_); refine box_event ?hg (N := 4) ?hd (cs := #[.slice none 0 0]) (t := 35) ?hr ?_; (case hd => rfl); (case hg => rfl); (case hr => first | (go_simp; done) | (go_simp; rfl)); intro gb632 hg w6 hbox hb; have n0_ := am_ (blk_below (bu BK630.out) hb); have n1_ := am_ (blk_below (bu BK631.out) hb); have n2_ := am_ (below_step z38_7 hb); have n3_ := am_ (hbox); have n4_ := am_ (by rw [hg]; exact (below_size z38_7) : w.heap.size ≤ gb632); have n5_ := am_ (by rw [hg]; exact (below_size z38_7) : w.heap.size ≤ gb632); have n6_ := am_ (by rw [hg]; exact Nat.ne_of_lt (blk_lt (bu BK630.out)) : gb630 ≠ gb632); have n7_ := am_ (by rw [hg]; exact Nat.ne_of_gt (blk_lt (bu BK630.out)) : gb632 ≠ gb630); have n8_ := am_ (by rw [hg]; exact Nat.ne_of_lt (blk_lt (bu BK631.out)) : gb631 ≠ gb632); have n9_ := am_ (by rw [hg]; exact Nat.ne_of_gt (blk_lt (bu BK631.out)) : gb632 ≠ gb631); clear BK630 BK631 HB; have BK630 := n0_; have BK631 := n1_; have HB := n2_; have BK632 := n3_; have GW632 := n4_; have GE632 := n5_; have NB630_632 := n6_; have NB632_630 := n7_; have NB631_632 := n8_; have NB632_631 := n9_; clear n0_ n1_ n2_ n3_ n4_ n5_ n6_ n7_ n8_ n9_; clear hb hbox hg))
 (try simp only [Act.put, List.setIfInBounds_toArray, List.set_cons_zero, List.set_cons_succ])
 go_cut [16] (fun v16 wc => ∃ (kq : Nat) (x16_2 : Bool), v16 = .bool x16_2 ∧ Aside0 (spec_TurnBeside.j0 kq x16_2 l0_0 l1_0 = some (r1, r2)) ∧ Aside0 (kq ≤ k) ∧ Aside0 (wc.heap[gb630]? = some (.cells #[(.slice A0_0 l0_0.length c0_0)] 35 (0, 0))) ∧ Aside0 (wc.heap[gb631]? = some (.cells #[(.slice A1_0 l1_0.length c1_0)] 35 (0, 0))) ∧ Aside0 (wc.heap[gb632]? = some (.cells #[(.slice none 0 0)] 35 (0, 0))) ∧ Aside0 (Below w.heap.size w wc))
 case first =>
  have H := HC3.out
  clear HC3
  replace H := Option.bind_eq_some_iff.mp H
  obtain ⟨t633, A70, H⟩ := H
  replace H : (if t633 = true then ((spec_ProgOk.f k l1_0).bind fun t634 => (spec_TurnBeside.j0 k (!t634) l0_0 l1_0)) else (spec_TurnBeside.j0 k true l0_0 l1_0)) = some (r1, r2) := H
  have A7 := am_ A70
  clear A70
  by_cases c8 : t633 = true
  ·subst c8
   have H1 : ((spec_ProgOk.f k l1_0).bind fun t634 => (spec_TurnBeside.j0 k (!t634) l0_0 l1_0)) = some (r1, r2) := by rw [if_pos rfl] at H; exact H
   clear H
   have H := H1
   clear H1
   replace H := Option.bind_eq_some_iff.mp H
   obtain ⟨t634, A90, H⟩ := H
   replace H : (spec_TurnBeside.j0 k (!t634) l0_0 l1_0) = some (r1, r2) := H
   have A9 := am_ A90
   clear A90
   have H' := am_ H
   clear H
   have hnb10 := NB630_631.out
   have hnc10 := NB631_630.out
   have hnb11 := NB630_632.out
   have hnc11 := NB632_630.out
   have hcz12_0 : w6.cell? ⟨gb630, 0, none⟩ = some (.slice A0_0 l0_0.length c0_0) := (blk_cell BK630.out 0).trans rfl
   have hfz12_0 := blk_frozen BK630.out 0
   go_wp2_with (first | ((with_reducible refine gate_callee (f := 43) rfl ?_); refine goesL_ (some 10) rfl rfl Try.func43 (by kernel_rfl) rfl #[.agg #[.slice A0_0 l0_0.length c0_0]] rfl (by (try simp only [List.map_toArray, List.map_cons, List.map_nil]); first | done | rfl | (simp only [List.length_drop, List.length_take]; rfl)) ?_; (with_reducible refine (spec_ProgOk.calls k _ _ l0_0 true _ ?side1 ?side2 A7.out).mono ?_); (case side1 => repeat (first | exact (Kd.C_below HR0_0.out HB.out) | (with_reducible refine Kd.C_alloc ?_ _) | (with_reducible refine Kd.C_drewN ?_ _) | (with_reducible refine Kd.C_drew ?_))); (case side2 => exact HC0_0.out); rintro e w13 ⟨rfl, hb⟩; refine ⟨_, rfl, ?_⟩; have n0_ := am_ (blk_below (bu BK630.out) hb); have n1_ := am_ (blk_below (bu BK631.out) hb); have n2_ := am_ (blk_below (bu BK632.out) hb); have n3_ := am_ (below_step z38_8 hb); clear BK630 BK631 BK632 HB; have BK630 := n0_; have BK631 := n1_; have BK632 := n2_; have HB := n3_; clear n0_ n1_ n2_ n3_; (try clear hb); (try clear hb2); (try clear hk); (try clear hi); have hnb14 := NB631_632.out; have hnc14 := NB632_631.out; have hcz15_0 : w13.cell? ⟨gb631, 0, none⟩ = some (.slice A1_0 l1_0.length c1_0) := (blk_cell BK631.out 0).trans rfl; have hfz15_0 := blk_frozen BK631.out 0) | (go_at_call 43; (with_reducible refine (spec_ProgOk.calls k _ _ l1_0 t634 _ ?side1 ?side2 A9.out).mono ?_); (case side1 => repeat (first | exact (Kd.C_below HR1_0.out HB.out) | (with_reducible refine Kd.C_alloc ?_ _) | (with_reducible refine Kd.C_drewN ?_ _) | (with_reducible refine Kd.C_drew ?_))); (case side2 => exact HC1_0.out); rintro e w16 ⟨rfl, hb⟩; have n0_ := am_ (blk_below (bu BK630.out) hb); have n1_ := am_ (blk_below (bu BK631.out) hb); have n2_ := am_ (blk_below (bu BK632.out) hb); have n3_ := am_ (below_step z38_8 hb); clear BK630 BK631 BK632 HB; have BK630 := n0_; have BK631 := n1_; have BK632 := n2_; have HB := n3_; clear n0_ n1_ n2_ n3_; (try clear hb); (try clear hb2); (try clear hk); (try clear hi)))
   go_meet
   case rel => exact ⟨_, (!t634), z38_1, H', ⟨by first | omega | exact Nat.le_refl _⟩, ⟨bu BK630.out⟩, ⟨bu BK631.out⟩, ⟨bu BK632.out⟩, ⟨z38_8⟩⟩
  ·replace c8 := Bool.eq_false_iff.mpr c8
   subst c8
   have H1 : (spec_TurnBeside.j0 k true l0_0 l1_0) = some (r1, r2) := by rw [if_neg (show ¬ (false = true) by decide)] at H; exact H
   clear H
   have H := H1
   clear H1
   have H' := am_ H
   clear H
   have hnb17 := NB630_631.out
   have hnc17 := NB631_630.out
   have hnb18 := NB630_632.out
   have hnc18 := NB632_630.out
   have hcz19_0 : w6.cell? ⟨gb630, 0, none⟩ = some (.slice A0_0 l0_0.length c0_0) := (blk_cell BK630.out 0).trans rfl
   have hfz19_0 := blk_frozen BK630.out 0
   go_wp2_with (first | ((with_reducible refine gate_callee (f := 43) rfl ?_); refine goesL_ (some 10) rfl rfl Try.func43 (by kernel_rfl) rfl #[.agg #[.slice A0_0 l0_0.length c0_0]] rfl (by (try simp only [List.map_toArray, List.map_cons, List.map_nil]); first | done | rfl | (simp only [List.length_drop, List.length_take]; rfl)) ?_; (with_reducible refine (spec_ProgOk.calls k _ _ l0_0 false _ ?side1 ?side2 A7.out).mono ?_); (case side1 => repeat (first | exact (Kd.C_below HR0_0.out HB.out) | (with_reducible refine Kd.C_alloc ?_ _) | (with_reducible refine Kd.C_drewN ?_ _) | (with_reducible refine Kd.C_drew ?_))); (case side2 => exact HC0_0.out); rintro e w20 ⟨rfl, hb⟩; refine ⟨_, rfl, ?_⟩; have n0_ := am_ (blk_below (bu BK630.out) hb); have n1_ := am_ (blk_below (bu BK631.out) hb); have n2_ := am_ (blk_below (bu BK632.out) hb); have n3_ := am_ (below_step z38_8 hb); clear BK630 BK631 BK632 HB; have BK630 := n0_; have BK631 := n1_; have BK632 := n2_; have HB := n3_; clear n0_ n1_ n2_ n3_; (try clear hb); (try clear hb2); (try clear hk); (try clear hi)))
   go_meet
   case rel => exact ⟨_, (true), z38_1, H', ⟨by first | omega | exact Nat.le_refl _⟩, ⟨bu BK630.out⟩, ⟨bu BK631.out⟩, ⟨bu BK632.out⟩, ⟨z38_8⟩⟩
 case rest =>
  clear HC3
  obtain ⟨kq, x16_2, rfl, HA, HJ2, BK630, BK631, BK632, HB⟩ := hcut
  cases kq with
  | zero => exact absurd HA.out (by simp [spec_TurnBeside.j0])
  | succ kj2 =>
   have H := HA.out
   clear HA
   simp only [spec_TurnBeside.j0] at H
   by_cases c21 : x16_2 = true
   ·subst c21
    have H1 : (some (([] : List (List (S85))), false)) = some (r1, r2) := by rw [if_pos rfl] at H; exact H
    clear H
    have H := H1
    clear H1
    simp only [Option.some.injEq, Prod.mk.injEq] at H
    obtain ⟨rfl, rfl⟩ := H
    have hnb22 := NB632_630.out
    have hnc22 := NB630_632.out
    have hnb23 := NB632_631.out
    have hnc23 := NB631_632.out
    have hcz24_0 : wc.cell? ⟨gb632, 0, none⟩ = some (.slice none 0 0) := (blk_cell BK632.out 0).trans rfl
    have hfz24_0 := blk_frozen BK632.out 0
    go_wp2
    refine bodyPost_ret (results_ct rfl _ _ gb632 35 #[.slice none 0 0] (0, 0) _ rfl z38_14 Try.underlying35 rfl (by kernel_rfl)) rfl ?_
    exact ⟨_, z38_3, z38_5, z38_8⟩
   ·replace c21 := Bool.eq_false_iff.mpr c21
    subst c21
    have H1 : (spec_TurnBeside.l0 kj2 0 l0_0 l1_0 ([] : List (List (S85)))) = some (r1, r2) := by rw [if_neg (show ¬ (false = true) by decide)] at H; exact H
    clear H
    have H := H1
    clear H1
    have H' := am_ H
    clear H
    go_wp2_with (first | ((with_reducible refine gate_dst (N := 6) rfl ?_); refine box_event ?hg (N := 6) ?hd (cs := #[.slice none 0 0]) (t := 35) ?hr ?_; (case hd => rfl); (case hg => rfl); (case hr => first | (go_simp; done) | (go_simp; rfl)); intro gb635 hg w25 hbox hb; have n0_ := am_ (blk_below (bu BK630.out) hb); have n1_ := am_ (blk_below (bu BK631.out) hb); have n2_ := am_ (blk_below (bu BK632.out) hb); have n3_ := am_ (below_step z38_8 hb); have n4_ := am_ (hbox); have n5_ := am_ (by rw [hg]; exact (below_size z38_8) : w.heap.size ≤ gb635); have n6_ := am_ (by rw [hg]; exact (below_size z38_8) : w.heap.size ≤ gb635); have n7_ := am_ (by rw [hg]; exact Nat.ne_of_lt (blk_lt (bu BK630.out)) : gb630 ≠ gb635); have n8_ := am_ (by rw [hg]; exact Nat.ne_of_gt (blk_lt (bu BK630.out)) : gb635 ≠ gb630); have n9_ := am_ (by rw [hg]; exact Nat.ne_of_lt (blk_lt (bu BK631.out)) : gb631 ≠ gb635); have n10_ := am_ (by rw [hg]; exact Nat.ne_of_gt (blk_lt (bu BK631.out)) : gb635 ≠ gb631); have n11_ := am_ (by rw [hg]; exact Nat.ne_of_lt (blk_lt (bu BK632.out)) : gb632 ≠ gb635); have n12_ := am_ (by rw [hg]; exact Nat.ne_of_gt (blk_lt (bu BK632.out)) : gb635 ≠ gb632); clear BK630 BK631 BK632 HB; have BK630 := n0_; have BK631 := n1_; have BK632 := n2_; have HB := n3_; have BK635 := n4_; have GW635 := n5_; have GE635 := n6_; have NB630_635 := n7_; have NB635_630 := n8_; have NB631_635 := n9_; have NB635_631 := n10_; have NB632_635 := n11_; have NB635_632 := n12_; clear n0_ n1_ n2_ n3_ n4_ n5_ n6_ n7_ n8_ n9_ n10_ n11_ n12_; clear hb hbox hg; have hnb26 := NB635_630.out; have hnc26 := NB630_635.out; have hnb27 := NB635_631.out; have hnc27 := NB631_635.out; have hnb28 := NB635_632.out; have hnc28 := NB632_635.out; have hcz29_0 : w25.cell? ⟨gb635, 0, none⟩ = some (.slice none 0 0) := (blk_cell BK635.out 0).trans rfl; have hfz29_0 := blk_frozen BK635.out 0))
    go_loopg [7] kj2 (fun kq v7 w' => ∃ (x7_2 : Int) (x636000_2 : List (List (S85))) (u636000 : Value), v7 = .int .i64 x7_2 ∧ Aside0 (spec_TurnBeside.l0 kq x7_2 l0_0 l1_0 x636000_2 = some (r1, r2)) ∧ Aside0 (kq ≤ kj2) ∧ Aside0 (Kd.S (Kd.slice 85 k85) 82 w' w.heap.size (fun _ => True) u636000 x636000_2) ∧ Aside0 (w'.heap[gb630]? = some (.cells #[(.slice A0_0 l0_0.length c0_0)] 35 (0, 0))) ∧ Aside0 (w'.heap[gb631]? = some (.cells #[(.slice A1_0 l1_0.length c1_0)] 35 (0, 0))) ∧ Aside0 (w'.heap[gb632]? = some (.cells #[(.slice none 0 0)] 35 (0, 0))) ∧ Aside0 (w'.heap[gb635]? = some (.cells #[u636000] 35 (0, 0))) ∧ Aside0 (Below w.heap.size w w'))
    case atStart => exact ⟨(0), (([] : List (List (S85)))), (.slice none 0 0), z38_1, H', ⟨Nat.le_refl _⟩, ⟨z38_5⟩, ⟨z38_9⟩, ⟨z38_10⟩, ⟨z38_11⟩, ⟨by (with_reducible repeat (first | refine blk_drewN ?_ _ | refine blk_drew ?_ | refine blk_alloc ?_ _)); refine blk_put (cs := #[.slice none 0 0]) ?_ 0 _ rfl; (with_reducible repeat (first | refine blk_drewN ?_ _ | refine blk_drew ?_ | refine blk_alloc ?_ _)); exact BK635.out⟩, ⟨z38_12⟩⟩
    case round =>
     clear H'
     obtain ⟨x7_2, x636000_2, u636000, rfl, HA, HK2, HO_636000, BK630, BK631, BK632, BK635, HB⟩ := hrel
     cases gk with
     | zero => exact absurd HA.out (by simp [spec_TurnBeside.l0])
     | succ k2 =>
      have H := HA.out
      clear HA
      simp only [spec_TurnBeside.l0] at H
      by_cases c30 : x7_2 < (l0_0.length : Int)
      ·rw [if_pos c30] at H
       have c30b0 : decide (x7_2 < (l0_0.length : Int)) = true := decide_eq_true c30
       clear c30
       obtain ⟨y636, hy636⟩ : ∃ y_ : List (S85), y_ = (([] : List (S85))) := ⟨_, rfl⟩
       replace H : (if 0 ≤ x7_2 then (if y636.length + (rd_L7 l0_0 x7_2).length < 5864062014805 then (if x636000_2.length < 5864062014805 then (spec_TurnBeside.l0 k2 (wrap64 (x7_2 + 1)) l0_0 l1_0 (x636000_2 ++ [(y636 ++ (rd_L7 l0_0 x7_2))])) else (none)) else (none)) else (none)) = some (r1, r2) := by first | (rw [hy636]; with_reducible exact H) | (have H2_ := (Option.bind_some _ _).symm.trans H; rw [hy636]; with_reducible exact H2_) | (have H2_ := (Option.bind_some _ _).symm.trans H; with_reducible exact H2_) | with_reducible exact H | (rw [hy636]; exact H) | exact H
       have Ny636 := am_ hy636
       clear hy636
       by_cases c31 : 0 ≤ x7_2
       ·rw [if_pos c31] at H
        have c31b0 : decide (0 ≤ x7_2) = true := decide_eq_true c31
        clear c31
        by_cases c32 : y636.length + (rd_L7 l0_0 x7_2).length < 5864062014805
        ·rw [if_pos c32] at H
         have LMc32 := am_ c32
         clear c32
         obtain ⟨y640, hy640⟩ : ∃ y_ : List (S85), y_ = (y636 ++ (rd_L7 l0_0 x7_2)) := ⟨_, rfl⟩
         replace H : (if x636000_2.length < 5864062014805 then (spec_TurnBeside.l0 k2 (wrap64 (x7_2 + 1)) l0_0 l1_0 (x636000_2 ++ [y640])) else (none)) = some (r1, r2) := by first | (rw [hy640]; with_reducible exact H) | (have H2_ := (Option.bind_some _ _).symm.trans H; rw [hy640]; with_reducible exact H2_) | (have H2_ := (Option.bind_some _ _).symm.trans H; with_reducible exact H2_) | with_reducible exact H | (rw [hy640]; exact H) | exact H
         have Ny640 := am_ hy640
         clear hy640
         by_cases c33 : x636000_2.length < 5864062014805
         ·rw [if_pos c33] at H
          have LMc33 := am_ c33
          clear c33
          obtain ⟨y643, hy643⟩ : ∃ y_ : List (List (S85)), y_ = (x636000_2 ++ [y640]) := ⟨_, rfl⟩
          replace H : (spec_TurnBeside.l0 k2 (wrap64 (x7_2 + 1)) l0_0 l1_0 y643) = some (r1, r2) := by first | (rw [hy643]; with_reducible exact H) | (have H2_ := (Option.bind_some _ _).symm.trans H; rw [hy643]; with_reducible exact H2_) | (have H2_ := (Option.bind_some _ _).symm.trans H; with_reducible exact H2_) | with_reducible exact H | (rw [hy643]; exact H) | exact H
          have Ny643 := am_ hy643
          clear hy643
          have H' := am_ H
          clear H
          have hnb34 := NB630_631.out
          have hnc34 := NB631_630.out
          have hnb35 := NB630_632.out
          have hnc35 := NB632_630.out
          have hnb36 := NB630_635.out
          have hnc36 := NB635_630.out
          have hcz37_0 : wr.cell? ⟨gb630, 0, none⟩ = some (.slice A0_0 l0_0.length c0_0) := (blk_cell BK630.out 0).trans rfl
          have hfz37_0 := blk_frozen BK630.out 0
          try go_wp2
          have n0_ := am_ (Kd.S_drew HO_636000.out)
          have n1_ := am_ (blk_drew BK630.out)
          have n2_ := am_ (blk_drew BK631.out)
          have n3_ := am_ (blk_drew BK632.out)
          have n4_ := am_ (blk_drew BK635.out)
          have n5_ := am_ (below_drew1 HB.out)
          clear HO_636000 BK630 BK631 BK632 BK635 HB
          have HO_636000 := n0_
          have BK630 := n1_
          have BK631 := n2_
          have BK632 := n3_
          have BK635 := n4_
          have HB := n5_
          clear n0_ n1_ n2_ n3_ n4_ n5_
          have p639 : 0 ≤ (x7_2 : Int) := of_decide_eq_true z38_2
          have q639 : x7_2 < (l0_0.length : Int) := of_decide_eq_true z38_2
          obtain ⟨ad639, A639_0, c639_0, e639, hx639_0, hl639_0, hi639_0⟩ := at_L7 HR0_0.out x7_2 p639 q639
          have hw639_0 := hx639_0
          cases e639
          replace hx639_0 := (HB.out.cell (World.block_lt_of_cell? w _ hx639_0)).trans hx639_0
          have HR639_0 := am_ hi639_0
          have HC639_0 := am_ hl639_0
          clear hi639_0 hl639_0
          replace p639 := eq_true p639
          replace q639 := eq_true q639
          refine start_ (n := 13) (S := fun w' => w'.cell? ⟨gb635, 0, none⟩ = some (u636000) ∧ w'.cell? ⟨gb630, 0, none⟩ = some (.slice (some ad639) l0_0.length c0_0) ∧ w'.cell? (ad639.add (x7_2).toNat) = some (.slice A639_0 (rd_L7 l0_0 x7_2).length c639_0)) (ds := [12]) #[false, false, false, false, false, false, false, false, false, false, false, false, false] (by kernel_rfl) rfl rfl ⟨(blk_cell BK635.out 0).trans rfl, (blk_cell BK630.out 0).trans rfl, ((HB.out.cell (World.block_lt_of_cell? w _ hw639_0)).trans hw639_0)⟩ (fun hHeld => ?_); refine with_tabW spec_TurnBeside.tab7 spec_TurnBeside.bits7 (fun HT_ HW_ => ?_)
          generalize wr.drew = w38 at HO_636000 BK630 BK631 BK632 BK635 HB HR639_0 hx639_0 hHeld ⊢
          refine pure_ (i := 0) (N := some 26) (v := ?_) (a' := ?_) #[true, false, false, false, false, false, false, false, false, false, false, false, false] rfl rfl (any_of HT_.out (by kernel_rfl)) (fun _ _ _ h => h) (Or.inl ⟨by rfl, ?_⟩) ?_ ?_
          rotate_left
          ·intro w'
           go_simp
           with_reducible rfl
          rotate_left
          ·simp only [Act.put, List.setIfInBounds_toArray, List.set_cons_zero, List.set_cons_succ, i64_w, i32_w]
           rfl
          refine pure_ (i := 3) (N := some 29) (v := ?_) (a' := ?_) #[true, false, false, true, false, false, false, false, false, false, false, false, false] rfl rfl (any_of HT_.out (by kernel_rfl)) (fun _ _ _ h => h) (Or.inl ⟨by rfl, ?_⟩) ?_ ?_
          rotate_left
          ·intro w'
           go_simp
           with_reducible rfl
          rotate_left
          ·simp only [Act.put, List.setIfInBounds_toArray, List.set_cons_zero, List.set_cons_succ, i64_w, i32_w]
           rfl
          refine pure_ (i := 5) (N := some 31) (v := ?_) (a' := ?_) #[true, false, false, true, false, true, false, false, false, false, false, false, false] rfl rfl (any_of HT_.out (by kernel_rfl)) (fun _ _ _ h => h) (Or.inl ⟨by rfl, ?_⟩) ?_ ?_
          rotate_left
          ·intro w'
           go_simp
           with_reducible rfl
          rotate_left
          ·simp only [Act.put, List.setIfInBounds_toArray, List.set_cons_zero, List.set_cons_succ, i64_w, i32_w]
           rfl
          refine take_ (i := 1) (N := some 27) (v := ?_) (a' := ?_) #[true, true, false, true, false, true, false, false, false, false, false, false, false] rfl rfl (take_ofW HT_.out HW_.out (by kernel_rfl)) (fun _ _ _ h => h) (Or.inl ⟨by rfl, ?_⟩) hHeld ?_ ?_
          rotate_left
          ·rintro w' ⟨s0, s1, s2⟩
           go_simp
           with_reducible rfl
          rotate_left
          ·simp only [Act.put, List.setIfInBounds_toArray, List.set_cons_zero, List.set_cons_succ, i64_w, i32_w]
           rfl
          refine take_ (i := 4) (N := some 30) (v := ?_) (a' := ?_) #[true, true, false, true, true, true, false, false, false, false, false, false, false] rfl rfl (take_ofW HT_.out HW_.out (by kernel_rfl)) (fun _ _ _ h => h) (Or.inl ⟨by rfl, ?_⟩) hHeld ?_ ?_
          rotate_left
          ·rintro w' ⟨s0, s1, s2⟩
           go_simp
           with_reducible rfl
          rotate_left
          ·simp only [Act.put, List.setIfInBounds_toArray, List.set_cons_zero, List.set_cons_succ, i64_w, i32_w]
           rfl
          refine pure_ (i := 6) (N := some 32) (v := ?_) (a' := ?_) #[true, true, false, true, true, true, true, false, false, false, false, false, false] rfl rfl (any_of HT_.out (by kernel_rfl)) (fun _ _ _ h => h) (Or.inl ⟨by rfl, ?_⟩) ?_ ?_
          rotate_left
          ·intro w'
           go_simp
           with_reducible rfl
          rotate_left
          ·simp only [Act.put, List.setIfInBounds_toArray, List.set_cons_zero, List.set_cons_succ, i64_w, i32_w]
           rfl
          refine take_ (i := 7) (N := some 33) (v := ?_) (a' := ?_) #[true, true, false, true, true, true, true, true, false, false, false, false, false] rfl rfl (take_ofW HT_.out HW_.out (by kernel_rfl)) (fun _ _ _ h => h) (Or.inl ⟨by rfl, ?_⟩) hHeld ?_ ?_
          rotate_left
          ·rintro w' ⟨s0, s1, s2⟩
           go_simp
           with_reducible rfl
          rotate_left
          ·simp only [Act.put, List.setIfInBounds_toArray, List.set_cons_zero, List.set_cons_succ, i64_w, i32_w]
           rfl
          refine one_ (i := 2) (N := some 28) #[true, true, true, true, true, true, true, true, false, false, false, false, false] rfl rfl (one_of HT_.out (by kernel_rfl)) (by decide) (fun K hK => ?_)
          refine Kd.R_lit_step k85 _ 85 ?hg (N := 28) ?hd (xs := ([] : List (S85))) (inner := []) (ok := fun _ => True) (okp := fun _ => True) ?hr ?hp (fun _ hk => hk) trivial (Below.refl _ _) (Nat.le_refl _) (by simp) ?_; (case hd => rfl); (case hg => rfl); (case hr => first | (go_simp; done) | (go_simp; rfl)); (case hp => exact (Reps.none _ _))
          intro v637 w39 ho40 hb hg_ hnew_
          clear hg_ hnew_
          (first | rw [← Ny636.out] at ho40 | (simp only [Int.reduceToNat] at ho40; rw [← Ny636.out] at ho40))
          have n0_ := am_ (Kd.S_elder' (su HO_636000.out) (Kd.R_base ho40) hb)
          have n1_ := am_ (Kd.R_lower ho40 (below_size z38_12))
          have n2_ := am_ (blk_below (bu BK630.out) hb)
          have n3_ := am_ (blk_below (bu BK631.out) hb)
          have n4_ := am_ (blk_below (bu BK632.out) hb)
          have n5_ := am_ (blk_below (bu BK635.out) hb)
          have n6_ := am_ (below_step z38_12 hb)
          clear HO_636000 BK630 BK631 BK632 BK635 HB
          have HO_636000 := n0_
          have HO638 := n1_
          have BK630 := n2_
          have BK631 := n3_
          have BK632 := n4_
          have BK635 := n5_
          have HB := n6_
          clear n0_ n1_ n2_ n3_ n4_ n5_ n6_ hb ho40
          refine hK.out _ _ ⟨(blk_cell BK635.out 0).trans rfl, (blk_cell BK630.out 0).trans rfl, ((HB.out.cell (World.block_lt_of_cell? w _ hw639_0)).trans hw639_0)⟩ (fun hHeld => ?_)
          clear hK K
          refine norm_ (a' := ?_) ?_ ?_
          rotate_left
          ·show Act.put _ (some 28) _ = _
           simp only [Act.put, List.setIfInBounds_toArray, List.set_cons_zero, List.set_cons_succ, i64_w, i32_w]
           rfl
          refine one_ (i := 8) (N := some 34) #[true, true, true, true, true, true, true, true, true, false, false, false, false] rfl rfl (one_of HT_.out (by kernel_rfl)) (by decide) (fun K hK => ?_)
          refine Kd.R_append_rows_step k85 (w0 := w) w.heap.size (by rfl) (.tmp 28) (.tmp 33) 82 85 (.agg #[(.int .i64 0), (.int .i64 0), (.int .i64 0)]) 24 rfl Try.underlying82 info85 rfl (by decide) (by omega) v637 y636 (rd_L7 l0_0 x7_2) _ _ _ (fun _ => True) (fun _ => False) rfl rfl ?aO ?aR (fun _ _ h => h) (fun _ h => h.elim) ?aF ?aB ?aS ?aL ?_
          (case aR => repeat (first | exact (Kd.C_below HR639_0.out HB.out) | (with_reducible refine Kd.C_alloc ?_ _) | (with_reducible refine Kd.C_drewN ?_ _) | (with_reducible refine Kd.C_drew ?_)))
          (case aB => exact z38_12)
          (case aF => exact (fun _ _ => trivial))
          (case aO => exact (ru HO638.out))
          (case aS => exact (below_size z38_12))
          (case aL => have := LMc32.out; omega)
          intro v641 w41 ho hb hg hat
          rw [← Ny640.out] at ho
          have n0_ := am_ (Kd.S_after (ok := (fun _ => True)) (su HO_636000.out) hg hat)
          have n1_ := am_ (blk_grown (bu BK630.out) hg (Kd.R_ne HO638.out BK630.out (by decide)))
          have n2_ := am_ (blk_grown (bu BK631.out) hg (Kd.R_ne HO638.out BK631.out (by decide)))
          have n3_ := am_ (blk_grown (bu BK632.out) hg (Kd.R_ne HO638.out BK632.out (by decide)))
          have n4_ := am_ (blk_grown (bu BK635.out) hg (Kd.R_ne HO638.out BK635.out (by decide)))
          have n5_ := am_ (hb)
          have n6_ := am_ (ho)
          clear HO_636000 BK630 BK631 BK632 BK635 HB HO638
          have HO_636000 := n0_
          have BK630 := n1_
          have BK631 := n2_
          have BK632 := n3_
          have BK635 := n4_
          have HB := n5_
          have HO642 := n6_
          clear n0_ n1_ n2_ n3_ n4_ n5_ n6_ ho hb hg hat
          obtain ⟨Ao43, co43, eo43⟩ := Kd.R_slice HO642.out
          (first | subst eo43 | (injection eo43 with f1_ f2_ f3_; have f4_ := f1_.symm; have f5_ := f3_.symm; clear f1_ f2_ f3_; subst f4_; subst f5_))
          refine hK.out _ _ ⟨(blk_cell BK635.out 0).trans rfl, (blk_cell BK630.out 0).trans rfl, ((HB.out.cell (World.block_lt_of_cell? w _ hw639_0)).trans hw639_0)⟩ (fun hHeld => ?_)
          clear hK K
          refine norm_ (a' := ?_) ?_ ?_
          rotate_left
          ·show Act.put _ (some 34) _ = _
           simp only [Act.put, List.setIfInBounds_toArray, List.set_cons_zero, List.set_cons_succ, i64_w, i32_w]
           rfl
          refine one_ (i := 9) (N := some 35) #[true, true, true, true, true, true, true, true, true, true, false, false, false] rfl rfl (one_of HT_.out (by kernel_rfl)) (by decide) (fun K hK => ?_)
          refine value_ (w1 := ?_) (v := ?_) (by rfl) rfl ?_ ?_
          rotate_left 2
          ·go_simp
           constructor
           ·rfl
           ·rfl
          refine hK.out _ _ ⟨(blk_cell (blk_alloc BK635.out _) 0).trans rfl, (blk_cell (blk_alloc BK630.out _) 0).trans rfl, (World.cell?_alloc_lt _ _ _ (World.block_lt_of_cell? _ _ (((HB.out.cell (World.block_lt_of_cell? w _ hw639_0)).trans hw639_0)))).trans (((HB.out.cell (World.block_lt_of_cell? w _ hw639_0)).trans hw639_0))⟩ (fun hHeld => ?_)
          clear hK K
          refine norm_ (a' := ?_) ?_ ?_
          rotate_left
          ·show Act.put _ (some 35) _ = _
           simp only [Act.put, List.setIfInBounds_toArray, List.set_cons_zero, List.set_cons_succ, i64_w, i32_w]
           rfl
          refine one_ (i := 10) (N := some 36) #[true, true, true, true, true, true, true, true, true, true, true, false, false] rfl rfl (one_of HT_.out (by kernel_rfl)) (by decide) (fun K hK => ?_)
          refine Kd.S_append_step (Kd.slice 85 k85) (w0 := w) w.heap.size (by rfl) (.tmp 27) (.tmp 35) 33 82 (.slice none 0 0) 24 rfl Try.underlying33 info82 rfl (by decide) (by omega) u636000 x636000_2 y640 [.slice Ao43 y640.length co43] (fun _ => True) (fun k_ => some k_ = (.slice Ao43 y640.length co43 : Value).ownBlock) rfl rfl ?aP (fun k_ hk_ => ((Kd.R_mono (ok' := fun k_ => ((fun _ => True)) k_ ∧ some k_ ≠ (u636000 : Value).ownBlock) (Kd.R_apart' (HO642.out) (Kd.S_typed HO_636000.out) (by decide)) (fun k_ hk => ⟨trivial, hk.2⟩))).1 k_ hk_.symm) ?aF ?aO ?aB ?aS ?aL ?_
          (case aP => exact Kd.M_row (Kd.R_mono (Kd.R_tight rfl (Kd.R_mono (ok' := fun k_ => ((fun _ => True)) k_ ∧ some k_ ≠ (u636000 : Value).ownBlock) (Kd.R_apart' (HO642.out) (Kd.S_typed HO_636000.out) (by decide)) (fun k_ hk => ⟨trivial, hk.2⟩))) (fun _ h_ => h_)))
          (case aB => exact z38_12)
          (case aF => exact (fun _ _ => trivial))
          (case aO => exact (su (Kd.S_mono HO_636000.out (fun k_ hk => ⟨trivial, fun e_ => hk.2 e_⟩))))
          (case aS => exact (below_size z38_12))
          (case aL => have := LMc33.out; omega)
          intro v644 w42 ho hb hg hat
          rw [← Ny643.out] at ho
          have n0_ := am_ (blk_grown (bu BK630.out) hg (Kd.S_ne HO_636000.out BK630.out (by decide)))
          have n1_ := am_ (blk_grown (bu BK631.out) hg (Kd.S_ne HO_636000.out BK631.out (by decide)))
          have n2_ := am_ (blk_grown (bu BK632.out) hg (Kd.S_ne HO_636000.out BK632.out (by decide)))
          have n3_ := am_ (blk_grown (bu BK635.out) hg (Kd.S_ne HO_636000.out BK635.out (by decide)))
          have n4_ := am_ (hb)
          have n5_ := am_ (ho)
          clear BK630 BK631 BK632 BK635 HB HO_636000 HO642
          have BK630 := n0_
          have BK631 := n1_
          have BK632 := n2_
          have BK635 := n3_
          have HB := n4_
          have HO645 := n5_
          clear n0_ n1_ n2_ n3_ n4_ n5_ ho hb hg hat
          obtain ⟨Ao44, co44, eo44⟩ := Kd.S_slice HO645.out
          (first | subst eo44 | (injection eo44 with f1_ f2_ f3_; have f4_ := f1_.symm; have f5_ := f3_.symm; clear f1_ f2_ f3_; subst f4_; subst f5_))
          refine hK.out _ _ ⟨(blk_cell BK635.out 0).trans rfl, (blk_cell BK630.out 0).trans rfl, ((HB.out.cell (World.block_lt_of_cell? w _ hw639_0)).trans hw639_0)⟩ (fun hHeld => ?_)
          clear hK K
          refine norm_ (a' := ?_) ?_ ?_
          rotate_left
          ·show Act.put _ (some 36) _ = _
           simp only [Act.put, List.setIfInBounds_toArray, List.set_cons_zero, List.set_cons_succ, i64_w, i32_w]
           rfl
          refine pure_ (i := 11) (N := some 37) (v := ?_) (a' := ?_) #[true, true, true, true, true, true, true, true, true, true, true, true, false] rfl rfl (any_of HT_.out (by kernel_rfl)) (fun _ _ _ h => h) (Or.inl ⟨by rfl, ?_⟩) ?_ ?_
          rotate_left
          ·intro w'
           go_simp
           with_reducible rfl
          rotate_left
          ·simp only [Act.put, List.setIfInBounds_toArray, List.set_cons_zero, List.set_cons_succ, i64_w, i32_w]
           rfl
          refine last_ (i := 12) (N := none) #[true, true, true, true, true, true, true, true, true, true, true, true, true] rfl rfl (one_of HT_.out (by kernel_rfl)) (by decide) (fun K hK => ?_)
          have hs45 : w42.cell? ⟨gb635, 0, none⟩ = some (u636000) := (blk_cell BK635.out 0).trans rfl
          have hfs45 := blk_frozen BK635.out 0
          have hns45_0 := NB630_635.out
          have hns45_1 := NB631_635.out
          have hns45_2 := NB632_635.out
          have hms45_0 := NB635_630.out
          have hms45_1 := NB635_631.out
          have hms45_2 := NB635_632.out
          refine skip_ (w1 := ?_) (by rfl) rfl ?_ ?_
          rotate_left
          ·go_simp
           rfl
          refine hK.out _ _ ?_
          clear hK K
          refine done_ (done_of HT_.out (by kernel_rfl)) ?_
          try go_wp2
          go_roundg k2
          case measure => have := HJ2.out; have := HK2.out; omega
          case rel => exact ⟨(wrap64 (x7_2 + 1)), (y643), (.slice Ao44 y643.length co44), z38_1, H', ⟨by have := HJ2.out; have := HK2.out; omega⟩, ⟨su (Kd.S_mono (Kd.S_far (p := ⟨gb635, 0, none⟩) (Kd.S_types HO645.out BK635.out (by decide)) (fun _ hk => hk.2) (.slice Ao44 y643.length co44)) (fun _ hk => trivial))⟩, ⟨z38_9⟩, ⟨z38_10⟩, ⟨z38_11⟩, ⟨z38_13⟩, ⟨z38_12⟩⟩
         ·rw [if_neg c33] at H
          exact absurd H (by simp)
        ·rw [if_neg c32] at H
         exact absurd H (by simp)
       ·rw [if_neg c31] at H
        exact absurd H (by simp)
      ·rw [if_neg c30] at H
       have c30b0 : decide (x7_2 < (l0_0.length : Int)) = false := decide_eq_false c30
       clear c30
       have H' := am_ H
       clear H
       have hnb46 := NB630_631.out
       have hnc46 := NB631_630.out
       have hnb47 := NB630_632.out
       have hnc47 := NB632_630.out
       have hnb48 := NB630_635.out
       have hnc48 := NB635_630.out
       have hcz49_0 : wr.cell? ⟨gb630, 0, none⟩ = some (.slice A0_0 l0_0.length c0_0) := (blk_cell BK630.out 0).trans rfl
       have hfz49_0 := blk_frozen BK630.out 0
       go_wp2
       go_loopg [8] k2 (fun kq v8 w' => ∃ (x8_3 : Int) (x636000_3 : List (List (S85))) (u636000 : Value), v8 = .int .i64 x8_3 ∧ Aside0 (spec_TurnBeside.l1 kq x8_3 l1_0 x636000_3 = some (r1, r2)) ∧ Aside0 (kq ≤ k2) ∧ Aside0 (Kd.S (Kd.slice 85 k85) 82 w' w.heap.size (fun _ => True) u636000 x636000_3) ∧ Aside0 (w'.heap[gb630]? = some (.cells #[(.slice A0_0 l0_0.length c0_0)] 35 (0, 0))) ∧ Aside0 (w'.heap[gb631]? = some (.cells #[(.slice A1_0 l1_0.length c1_0)] 35 (0, 0))) ∧ Aside0 (w'.heap[gb632]? = some (.cells #[(.slice none 0 0)] 35 (0, 0))) ∧ Aside0 (w'.heap[gb635]? = some (.cells #[u636000] 35 (0, 0))) ∧ Aside0 (Below w.heap.size w w'))
       case atStart => exact ⟨(0), (x636000_2), (u636000), z38_1, H', ⟨Nat.le_refl _⟩, ⟨su HO_636000.out⟩, ⟨bu BK630.out⟩, ⟨bu BK631.out⟩, ⟨bu BK632.out⟩, ⟨bu BK635.out⟩, ⟨z38_12⟩⟩
       case round =>
        clear H'
        obtain ⟨x8_3, x636000_3, u636000, rfl, HA, HK3, HO_636000, BK630, BK631, BK632, BK635, HB⟩ := hrel
        cases gk with
        | zero => exact absurd HA.out (by simp [spec_TurnBeside.l1])
        | succ k3 =>
         have H := HA.out
         clear HA
         simp only [spec_TurnBeside.l1] at H
         by_cases c50 : x8_3 < (l1_0.length : Int)
         ·rw [if_pos c50] at H
          have c50b0 : decide (x8_3 < (l1_0.length : Int)) = true := decide_eq_true c50
          clear c50
          obtain ⟨y646, hy646⟩ : ∃ y_ : List (S85), y_ = (([] : List (S85))) := ⟨_, rfl⟩
          replace H : (if 0 ≤ x8_3 then (if y646.length + (rd_L7 l1_0 x8_3).length < 5864062014805 then (if x636000_3.length < 5864062014805 then (spec_TurnBeside.l1 k3 (wrap64 (x8_3 + 1)) l1_0 (x636000_3 ++ [(y646 ++ (rd_L7 l1_0 x8_3))])) else (none)) else (none)) else (none)) = some (r1, r2) := by first | (rw [hy646]; with_reducible exact H) | (have H2_ := (Option.bind_some _ _).symm.trans H; rw [hy646]; with_reducible exact H2_) | (have H2_ := (Option.bind_some _ _).symm.trans H; with_reducible exact H2_) | with_reducible exact H | (rw [hy646]; exact H) | exact H
          have Ny646 := am_ hy646
          clear hy646
          by_cases c51 : 0 ≤ x8_3
          ·rw [if_pos c51] at H
           have c51b0 : decide (0 ≤ x8_3) = true := decide_eq_true c51
           clear c51
           by_cases c52 : y646.length + (rd_L7 l1_0 x8_3).length < 5864062014805
           ·rw [if_pos c52] at H
            have LMc52 := am_ c52
            clear c52
            obtain ⟨y650, hy650⟩ : ∃ y_ : List (S85), y_ = (y646 ++ (rd_L7 l1_0 x8_3)) := ⟨_, rfl⟩
            replace H : (if x636000_3.length < 5864062014805 then (spec_TurnBeside.l1 k3 (wrap64 (x8_3 + 1)) l1_0 (x636000_3 ++ [y650])) else (none)) = some (r1, r2) := by first | (rw [hy650]; with_reducible exact H) | (have H2_ := (Option.bind_some _ _).symm.trans H; rw [hy650]; with_reducible exact H2_) | (have H2_ := (Option.bind_some _ _).symm.trans H; with_reducible exact H2_) | with_reducible exact H | (rw [hy650]; exact H) | exact H
            have Ny650 := am_ hy650
            clear hy650
            by_cases c53 : x636000_3.length < 5864062014805
            ·rw [if_pos c53] at H
             have LMc53 := am_ c53
             clear c53
             obtain ⟨y653, hy653⟩ : ∃ y_ : List (List (S85)), y_ = (x636000_3 ++ [y650]) := ⟨_, rfl⟩
             replace H : (spec_TurnBeside.l1 k3 (wrap64 (x8_3 + 1)) l1_0 y653) = some (r1, r2) := by first | (rw [hy653]; with_reducible exact H) | (have H2_ := (Option.bind_some _ _).symm.trans H; rw [hy653]; with_reducible exact H2_) | (have H2_ := (Option.bind_some _ _).symm.trans H; with_reducible exact H2_) | with_reducible exact H | (rw [hy653]; exact H) | exact H
             have Ny653 := am_ hy653
             clear hy653
             have H' := am_ H
             clear H
             have hnb54 := NB631_630.out
             have hnc54 := NB630_631.out
             have hnb55 := NB631_632.out
             have hnc55 := NB632_631.out
             have hnb56 := NB631_635.out
             have hnc56 := NB635_631.out
             have hcz57_0 : wr.cell? ⟨gb631, 0, none⟩ = some (.slice A1_0 l1_0.length c1_0) := (blk_cell BK631.out 0).trans rfl
             have hfz57_0 := blk_frozen BK631.out 0
             try go_wp2
             have n0_ := am_ (Kd.S_drew HO_636000.out)
             have n1_ := am_ (blk_drew BK630.out)
             have n2_ := am_ (blk_drew BK631.out)
             have n3_ := am_ (blk_drew BK632.out)
             have n4_ := am_ (blk_drew BK635.out)
             have n5_ := am_ (below_drew1 HB.out)
             clear HO_636000 BK630 BK631 BK632 BK635 HB
             have HO_636000 := n0_
             have BK630 := n1_
             have BK631 := n2_
             have BK632 := n3_
             have BK635 := n4_
             have HB := n5_
             clear n0_ n1_ n2_ n3_ n4_ n5_
             have p649 : 0 ≤ (x8_3 : Int) := of_decide_eq_true z38_2
             have q649 : x8_3 < (l1_0.length : Int) := of_decide_eq_true z38_2
             obtain ⟨ad649, A649_0, c649_0, e649, hx649_0, hl649_0, hi649_0⟩ := at_L7 HR1_0.out x8_3 p649 q649
             have hw649_0 := hx649_0
             cases e649
             replace hx649_0 := (HB.out.cell (World.block_lt_of_cell? w _ hx649_0)).trans hx649_0
             have HR649_0 := am_ hi649_0
             have HC649_0 := am_ hl649_0
             clear hi649_0 hl649_0
             replace p649 := eq_true p649
             replace q649 := eq_true q649
             refine start_ (n := 13) (S := fun w' => w'.cell? ⟨gb635, 0, none⟩ = some (u636000) ∧ w'.cell? ⟨gb631, 0, none⟩ = some (.slice (some ad649) l1_0.length c1_0) ∧ w'.cell? (ad649.add (x8_3).toNat) = some (.slice A649_0 (rd_L7 l1_0 x8_3).length c649_0)) (ds := [12]) #[false, false, false, false, false, false, false, false, false, false, false, false, false] (by kernel_rfl) rfl rfl ⟨(blk_cell BK635.out 0).trans rfl, (blk_cell BK631.out 0).trans rfl, ((HB.out.cell (World.block_lt_of_cell? w _ hw649_0)).trans hw649_0)⟩ (fun hHeld => ?_); refine with_tabW spec_TurnBeside.tab11 spec_TurnBeside.bits11 (fun HT_ HW_ => ?_)
             generalize wr.drew = w58 at HO_636000 BK630 BK631 BK632 BK635 HB HR649_0 hx649_0 hHeld ⊢
             refine pure_ (i := 0) (N := some 45) (v := ?_) (a' := ?_) #[true, false, false, false, false, false, false, false, false, false, false, false, false] rfl rfl (any_of HT_.out (by kernel_rfl)) (fun _ _ _ h => h) (Or.inl ⟨by rfl, ?_⟩) ?_ ?_
             rotate_left
             ·intro w'
              go_simp
              with_reducible rfl
             rotate_left
             ·simp only [Act.put, List.setIfInBounds_toArray, List.set_cons_zero, List.set_cons_succ, i64_w, i32_w]
              rfl
             refine pure_ (i := 3) (N := some 48) (v := ?_) (a' := ?_) #[true, false, false, true, false, false, false, false, false, false, false, false, false] rfl rfl (any_of HT_.out (by kernel_rfl)) (fun _ _ _ h => h) (Or.inl ⟨by rfl, ?_⟩) ?_ ?_
             rotate_left
             ·intro w'
              go_simp
              with_reducible rfl
             rotate_left
             ·simp only [Act.put, List.setIfInBounds_toArray, List.set_cons_zero, List.set_cons_succ, i64_w, i32_w]
              rfl
             refine pure_ (i := 5) (N := some 50) (v := ?_) (a' := ?_) #[true, false, false, true, false, true, false, false, false, false, false, false, false] rfl rfl (any_of HT_.out (by kernel_rfl)) (fun _ _ _ h => h) (Or.inl ⟨by rfl, ?_⟩) ?_ ?_
             rotate_left
             ·intro w'
              go_simp
              with_reducible rfl
             rotate_left
             ·simp only [Act.put, List.setIfInBounds_toArray, List.set_cons_zero, List.set_cons_succ, i64_w, i32_w]
              rfl
             refine take_ (i := 1) (N := some 46) (v := ?_) (a' := ?_) #[true, true, false, true, false, true, false, false, false, false, false, false, false] rfl rfl (take_ofW HT_.out HW_.out (by kernel_rfl)) (fun _ _ _ h => h) (Or.inl ⟨by rfl, ?_⟩) hHeld ?_ ?_
             rotate_left
             ·rintro w' ⟨s0, s1, s2⟩
              go_simp
              with_reducible rfl
             rotate_left
             ·simp only [Act.put, List.setIfInBounds_toArray, List.set_cons_zero, List.set_cons_succ, i64_w, i32_w]
              rfl
             refine take_ (i := 4) (N := some 49) (v := ?_) (a' := ?_) #[true, true, false, true, true, true, false, false, false, false, false, false, false] rfl rfl (take_ofW HT_.out HW_.out (by kernel_rfl)) (fun _ _ _ h => h) (Or.inl ⟨by rfl, ?_⟩) hHeld ?_ ?_
             rotate_left
             ·rintro w' ⟨s0, s1, s2⟩
              go_simp
              with_reducible rfl
             rotate_left
             ·simp only [Act.put, List.setIfInBounds_toArray, List.set_cons_zero, List.set_cons_succ, i64_w, i32_w]
              rfl
             refine pure_ (i := 6) (N := some 51) (v := ?_) (a' := ?_) #[true, true, false, true, true, true, true, false, false, false, false, false, false] rfl rfl (any_of HT_.out (by kernel_rfl)) (fun _ _ _ h => h) (Or.inl ⟨by rfl, ?_⟩) ?_ ?_
             rotate_left
             ·intro w'
              go_simp
              with_reducible rfl
             rotate_left
             ·simp only [Act.put, List.setIfInBounds_toArray, List.set_cons_zero, List.set_cons_succ, i64_w, i32_w]
              rfl
             refine take_ (i := 7) (N := some 52) (v := ?_) (a' := ?_) #[true, true, false, true, true, true, true, true, false, false, false, false, false] rfl rfl (take_ofW HT_.out HW_.out (by kernel_rfl)) (fun _ _ _ h => h) (Or.inl ⟨by rfl, ?_⟩) hHeld ?_ ?_
             rotate_left
             ·rintro w' ⟨s0, s1, s2⟩
              go_simp
              with_reducible rfl
             rotate_left
             ·simp only [Act.put, List.setIfInBounds_toArray, List.set_cons_zero, List.set_cons_succ, i64_w, i32_w]
              rfl
             refine one_ (i := 2) (N := some 47) #[true, true, true, true, true, true, true, true, false, false, false, false, false] rfl rfl (one_of HT_.out (by kernel_rfl)) (by decide) (fun K hK => ?_)
             refine Kd.R_lit_step k85 _ 85 ?hg (N := 47) ?hd (xs := ([] : List (S85))) (inner := []) (ok := fun _ => True) (okp := fun _ => True) ?hr ?hp (fun _ hk => hk) trivial (Below.refl _ _) (Nat.le_refl _) (by simp) ?_; (case hd => rfl); (case hg => rfl); (case hr => first | (go_simp; done) | (go_simp; rfl)); (case hp => exact (Reps.none _ _))
             intro v647 w59 ho60 hb hg_ hnew_
             clear hg_ hnew_
             (first | rw [← Ny646.out] at ho60 | (simp only [Int.reduceToNat] at ho60; rw [← Ny646.out] at ho60))
             have n0_ := am_ (Kd.S_elder' (su HO_636000.out) (Kd.R_base ho60) hb)
             have n1_ := am_ (Kd.R_lower ho60 (below_size z38_12))
             have n2_ := am_ (blk_below (bu BK630.out) hb)
             have n3_ := am_ (blk_below (bu BK631.out) hb)
             have n4_ := am_ (blk_below (bu BK632.out) hb)
             have n5_ := am_ (blk_below (bu BK635.out) hb)
             have n6_ := am_ (below_step z38_12 hb)
             clear HO_636000 BK630 BK631 BK632 BK635 HB
             have HO_636000 := n0_
             have HO648 := n1_
             have BK630 := n2_
             have BK631 := n3_
             have BK632 := n4_
             have BK635 := n5_
             have HB := n6_
             clear n0_ n1_ n2_ n3_ n4_ n5_ n6_ hb ho60
             refine hK.out _ _ ⟨(blk_cell BK635.out 0).trans rfl, (blk_cell BK631.out 0).trans rfl, ((HB.out.cell (World.block_lt_of_cell? w _ hw649_0)).trans hw649_0)⟩ (fun hHeld => ?_)
             clear hK K
             refine norm_ (a' := ?_) ?_ ?_
             rotate_left
             ·show Act.put _ (some 47) _ = _
              simp only [Act.put, List.setIfInBounds_toArray, List.set_cons_zero, List.set_cons_succ, i64_w, i32_w]
              rfl
             refine one_ (i := 8) (N := some 53) #[true, true, true, true, true, true, true, true, true, false, false, false, false] rfl rfl (one_of HT_.out (by kernel_rfl)) (by decide) (fun K hK => ?_)
             refine Kd.R_append_rows_step k85 (w0 := w) w.heap.size (by rfl) (.tmp 47) (.tmp 52) 82 85 (.agg #[(.int .i64 0), (.int .i64 0), (.int .i64 0)]) 24 rfl Try.underlying82 info85 rfl (by decide) (by omega) v647 y646 (rd_L7 l1_0 x8_3) _ _ _ (fun _ => True) (fun _ => False) rfl rfl ?aO ?aR (fun _ _ h => h) (fun _ h => h.elim) ?aF ?aB ?aS ?aL ?_
             (case aR => repeat (first | exact (Kd.C_below HR649_0.out HB.out) | (with_reducible refine Kd.C_alloc ?_ _) | (with_reducible refine Kd.C_drewN ?_ _) | (with_reducible refine Kd.C_drew ?_)))
             (case aB => exact z38_12)
             (case aF => exact (fun _ _ => trivial))
             (case aO => exact (ru HO648.out))
             (case aS => exact (below_size z38_12))
             (case aL => have := LMc52.out; omega)
             intro v651 w61 ho hb hg hat
             rw [← Ny650.out] at ho
             have n0_ := am_ (Kd.S_after (ok := (fun _ => True)) (su HO_636000.out) hg hat)
             have n1_ := am_ (blk_grown (bu BK630.out) hg (Kd.R_ne HO648.out BK630.out (by decide)))
             have n2_ := am_ (blk_grown (bu BK631.out) hg (Kd.R_ne HO648.out BK631.out (by decide)))
             have n3_ := am_ (blk_grown (bu BK632.out) hg (Kd.R_ne HO648.out BK632.out (by decide)))
             have n4_ := am_ (blk_grown (bu BK635.out) hg (Kd.R_ne HO648.out BK635.out (by decide)))
             have n5_ := am_ (hb)
             have n6_ := am_ (ho)
             clear HO_636000 BK630 BK631 BK632 BK635 HB HO648
             have HO_636000 := n0_
             have BK630 := n1_
             have BK631 := n2_
             have BK632 := n3_
             have BK635 := n4_
             have HB := n5_
             have HO652 := n6_
             clear n0_ n1_ n2_ n3_ n4_ n5_ n6_ ho hb hg hat
             obtain ⟨Ao63, co63, eo63⟩ := Kd.R_slice HO652.out
             (first | subst eo63 | (injection eo63 with f1_ f2_ f3_; have f4_ := f1_.symm; have f5_ := f3_.symm; clear f1_ f2_ f3_; subst f4_; subst f5_))
             refine hK.out _ _ ⟨(blk_cell BK635.out 0).trans rfl, (blk_cell BK631.out 0).trans rfl, ((HB.out.cell (World.block_lt_of_cell? w _ hw649_0)).trans hw649_0)⟩ (fun hHeld => ?_)
             clear hK K
             refine norm_ (a' := ?_) ?_ ?_
             rotate_left
             ·show Act.put _ (some 53) _ = _
              simp only [Act.put, List.setIfInBounds_toArray, List.set_cons_zero, List.set_cons_succ, i64_w, i32_w]
              rfl
             refine one_ (i := 9) (N := some 54) #[true, true, true, true, true, true, true, true, true, true, false, false, false] rfl rfl (one_of HT_.out (by kernel_rfl)) (by decide) (fun K hK => ?_)
             refine value_ (w1 := ?_) (v := ?_) (by rfl) rfl ?_ ?_
             rotate_left 2
             ·go_simp
              constructor
              ·rfl
              ·rfl
             refine hK.out _ _ ⟨(blk_cell (blk_alloc BK635.out _) 0).trans rfl, (blk_cell (blk_alloc BK631.out _) 0).trans rfl, (World.cell?_alloc_lt _ _ _ (World.block_lt_of_cell? _ _ (((HB.out.cell (World.block_lt_of_cell? w _ hw649_0)).trans hw649_0)))).trans (((HB.out.cell (World.block_lt_of_cell? w _ hw649_0)).trans hw649_0))⟩ (fun hHeld => ?_)
             clear hK K
             refine norm_ (a' := ?_) ?_ ?_
             rotate_left
             ·show Act.put _ (some 54) _ = _
              simp only [Act.put, List.setIfInBounds_toArray, List.set_cons_zero, List.set_cons_succ, i64_w, i32_w]
              rfl
             refine one_ (i := 10) (N := some 55) #[true, true, true, true, true, true, true, true, true, true, true, false, false] rfl rfl (one_of HT_.out (by kernel_rfl)) (by decide) (fun K hK => ?_)
             refine Kd.S_append_step (Kd.slice 85 k85) (w0 := w) w.heap.size (by rfl) (.tmp 46) (.tmp 54) 33 82 (.slice none 0 0) 24 rfl Try.underlying33 info82 rfl (by decide) (by omega) u636000 x636000_3 y650 [.slice Ao63 y650.length co63] (fun _ => True) (fun k_ => some k_ = (.slice Ao63 y650.length co63 : Value).ownBlock) rfl rfl ?aP (fun k_ hk_ => ((Kd.R_mono (ok' := fun k_ => ((fun _ => True)) k_ ∧ some k_ ≠ (u636000 : Value).ownBlock) (Kd.R_apart' (HO652.out) (Kd.S_typed HO_636000.out) (by decide)) (fun k_ hk => ⟨trivial, hk.2⟩))).1 k_ hk_.symm) ?aF ?aO ?aB ?aS ?aL ?_
             (case aP => exact Kd.M_row (Kd.R_mono (Kd.R_tight rfl (Kd.R_mono (ok' := fun k_ => ((fun _ => True)) k_ ∧ some k_ ≠ (u636000 : Value).ownBlock) (Kd.R_apart' (HO652.out) (Kd.S_typed HO_636000.out) (by decide)) (fun k_ hk => ⟨trivial, hk.2⟩))) (fun _ h_ => h_)))
             (case aB => exact z38_12)
             (case aF => exact (fun _ _ => trivial))
             (case aO => exact (su (Kd.S_mono HO_636000.out (fun k_ hk => ⟨trivial, fun e_ => hk.2 e_⟩))))
             (case aS => exact (below_size z38_12))
             (case aL => have := LMc53.out; omega)
             intro v654 w62 ho hb hg hat
             rw [← Ny653.out] at ho
             have n0_ := am_ (blk_grown (bu BK630.out) hg (Kd.S_ne HO_636000.out BK630.out (by decide)))
             have n1_ := am_ (blk_grown (bu BK631.out) hg (Kd.S_ne HO_636000.out BK631.out (by decide)))
             have n2_ := am_ (blk_grown (bu BK632.out) hg (Kd.S_ne HO_636000.out BK632.out (by decide)))
             have n3_ := am_ (blk_grown (bu BK635.out) hg (Kd.S_ne HO_636000.out BK635.out (by decide)))
             have n4_ := am_ (hb)
             have n5_ := am_ (ho)
             clear BK630 BK631 BK632 BK635 HB HO_636000 HO652
             have BK630 := n0_
             have BK631 := n1_
             have BK632 := n2_
             have BK635 := n3_
             have HB := n4_
             have HO655 := n5_
             clear n0_ n1_ n2_ n3_ n4_ n5_ ho hb hg hat
             obtain ⟨Ao64, co64, eo64⟩ := Kd.S_slice HO655.out
             (first | subst eo64 | (injection eo64 with f1_ f2_ f3_; have f4_ := f1_.symm; have f5_ := f3_.symm; clear f1_ f2_ f3_; subst f4_; subst f5_))
             refine hK.out _ _ ⟨(blk_cell BK635.out 0).trans rfl, (blk_cell BK631.out 0).trans rfl, ((HB.out.cell (World.block_lt_of_cell? w _ hw649_0)).trans hw649_0)⟩ (fun hHeld => ?_)
             clear hK K
             refine norm_ (a' := ?_) ?_ ?_
             rotate_left
             ·show Act.put _ (some 55) _ = _
              simp only [Act.put, List.setIfInBounds_toArray, List.set_cons_zero, List.set_cons_succ, i64_w, i32_w]
              rfl
             refine pure_ (i := 11) (N := some 56) (v := ?_) (a' := ?_) #[true, true, true, true, true, true, true, true, true, true, true, true, false] rfl rfl (any_of HT_.out (by kernel_rfl)) (fun _ _ _ h => h) (Or.inl ⟨by rfl, ?_⟩) ?_ ?_
             rotate_left
             ·intro w'
              go_simp
              with_reducible rfl
             rotate_left
             ·simp only [Act.put, List.setIfInBounds_toArray, List.set_cons_zero, List.set_cons_succ, i64_w, i32_w]
              rfl
             refine last_ (i := 12) (N := none) #[true, true, true, true, true, true, true, true, true, true, true, true, true] rfl rfl (one_of HT_.out (by kernel_rfl)) (by decide) (fun K hK => ?_)
             have hs65 : w62.cell? ⟨gb635, 0, none⟩ = some (u636000) := (blk_cell BK635.out 0).trans rfl
             have hfs65 := blk_frozen BK635.out 0
             have hns65_0 := NB630_635.out
             have hns65_1 := NB631_635.out
             have hns65_2 := NB632_635.out
             have hms65_0 := NB635_630.out
             have hms65_1 := NB635_631.out
             have hms65_2 := NB635_632.out
             refine skip_ (w1 := ?_) (by rfl) rfl ?_ ?_
             rotate_left
             ·go_simp
              rfl
             refine hK.out _ _ ?_
             clear hK K
             refine done_ (done_of HT_.out (by kernel_rfl)) ?_
             try go_wp2
             go_roundg k3
             case measure => have := HJ2.out; have := HK2.out; have := HK3.out; omega
             case rel => exact ⟨(wrap64 (x8_3 + 1)), (y653), (.slice Ao64 y653.length co64), z38_1, H', ⟨by have := HJ2.out; have := HK2.out; have := HK3.out; omega⟩, ⟨su (Kd.S_mono (Kd.S_far (p := ⟨gb635, 0, none⟩) (Kd.S_types HO655.out BK635.out (by decide)) (fun _ hk => hk.2) (.slice Ao64 y653.length co64)) (fun _ hk => trivial))⟩, ⟨z38_9⟩, ⟨z38_10⟩, ⟨z38_11⟩, ⟨z38_13⟩, ⟨z38_12⟩⟩
            ·rw [if_neg c53] at H
             exact absurd H (by simp)
           ·rw [if_neg c52] at H
            exact absurd H (by simp)
          ·rw [if_neg c51] at H
           exact absurd H (by simp)
         ·rw [if_neg c50] at H
          have c50b0 : decide (x8_3 < (l1_0.length : Int)) = false := decide_eq_false c50
          clear c50
          replace H := Option.bind_eq_some_iff.mp H
          obtain ⟨t656, A660, H⟩ := H
          replace H : (if t656 = true then (some (x636000_3, true)) else (some (([] : List (List (S85))), false))) = some (r1, r2) := H
          have A66 := am_ A660
          clear A660
          by_cases c67 : t656 = true
          ·subst c67
           have H1 : (some (x636000_3, true)) = some (r1, r2) := by rw [if_pos rfl] at H; exact H
           clear H
           have H := H1
           clear H1
           simp only [Option.some.injEq, Prod.mk.injEq] at H
           obtain ⟨rfl, rfl⟩ := H
           have hnb68 := NB631_630.out
           have hnc68 := NB630_631.out
           have hnb69 := NB631_632.out
           have hnc69 := NB632_631.out
           have hnb70 := NB631_635.out
           have hnc70 := NB635_631.out
           have hcz71_0 : wr.cell? ⟨gb631, 0, none⟩ = some (.slice A1_0 l1_0.length c1_0) := (blk_cell BK631.out 0).trans rfl
           have hfz71_0 := blk_frozen BK631.out 0
           have hnb72 := NB635_630.out
           have hnc72 := NB630_635.out
           have hnb73 := NB635_632.out
           have hnc73 := NB632_635.out
           have hcz74_0 : wr.cell? ⟨gb635, 0, none⟩ = some (u636000) := (blk_cell BK635.out 0).trans rfl
           have hfz74_0 := blk_frozen BK635.out 0
           obtain ⟨Ao75, co75, eo75⟩ := Kd.S_slice HO_636000.out
           subst eo75
           go_wp2_with (first | ((with_reducible refine gate_callee (f := 43) rfl ?_); refine goesL_ (some 58) rfl rfl Try.func43 (by kernel_rfl) rfl #[.agg #[.slice Ao75 x636000_3.length co75]] rfl (by (try simp only [List.map_toArray, List.map_cons, List.map_nil]); first | done | rfl | (simp only [List.length_drop, List.length_take]; rfl)) ?_; (with_reducible refine (spec_ProgOk.calls k3 _ _ x636000_3 true _ ?side1 ?side2 A66.out).mono ?_); (case side1 => repeat (first | exact (Kd.S_reads' HO_636000.out).2.2 | (with_reducible refine Kd.C_alloc ?_ _) | (with_reducible refine Kd.C_drewN ?_ _) | (with_reducible refine Kd.C_drew ?_))); (case side2 => exact (Kd.S_reads' HO_636000.out).2.1); rintro e w76 ⟨rfl, hb⟩; refine ⟨_, rfl, ?_⟩; have n0_ := am_ (Kd.S_below (su HO_636000.out) hb); have n1_ := am_ (blk_below (bu BK630.out) hb); have n2_ := am_ (blk_below (bu BK631.out) hb); have n3_ := am_ (blk_below (bu BK632.out) hb); have n4_ := am_ (blk_below (bu BK635.out) hb); have n5_ := am_ (below_step z38_12 hb); clear HO_636000 BK630 BK631 BK632 BK635 HB; have HO_636000 := n0_; have BK630 := n1_; have BK631 := n2_; have BK632 := n3_; have BK635 := n4_; have HB := n5_; clear n0_ n1_ n2_ n3_ n4_ n5_; (try clear hb); (try clear hb2); (try clear hk); (try clear hi); have hcz77_0 : w76.cell? ⟨gb635, 0, none⟩ = some (.slice Ao75 x636000_3.length co75) := (blk_cell BK635.out 0).trans rfl; have hfz77_0 := blk_frozen BK635.out 0; have hnb78 := NB632_630.out; have hnc78 := NB630_632.out; have hcz79_0 : w76.cell? ⟨gb632, 0, none⟩ = some (.slice none 0 0) := (blk_cell BK632.out 0).trans rfl; have hfz79_0 := blk_frozen BK632.out 0))
           refine bodyPost_ret (results_ct rfl _ _ gb632 35 #[.slice Ao75 x636000_3.length co75] (0, 0) _ rfl z38_14 Try.underlying35 rfl (by kernel_rfl)) rfl ?_
           exact ⟨_, z38_3, su (Kd.S_mono (Kd.S_far (p := ⟨gb632, 0, none⟩) (Kd.S_types HO_636000.out BK632.out (by decide)) (fun _ hk => hk.2) (.slice Ao75 x636000_3.length co75)) (fun _ hk => trivial)), z38_12⟩
          ·replace c67 := Bool.eq_false_iff.mpr c67
           subst c67
           have H1 : (some (([] : List (List (S85))), false)) = some (r1, r2) := by rw [if_neg (show ¬ (false = true) by decide)] at H; exact H
           clear H
           have H := H1
           clear H1
           simp only [Option.some.injEq, Prod.mk.injEq] at H
           obtain ⟨rfl, rfl⟩ := H
           have hnb80 := NB631_630.out
           have hnc80 := NB630_631.out
           have hnb81 := NB631_632.out
           have hnc81 := NB632_631.out
           have hnb82 := NB631_635.out
           have hnc82 := NB635_631.out
           have hcz83_0 : wr.cell? ⟨gb631, 0, none⟩ = some (.slice A1_0 l1_0.length c1_0) := (blk_cell BK631.out 0).trans rfl
           have hfz83_0 := blk_frozen BK631.out 0
           have hnb84 := NB635_630.out
           have hnc84 := NB630_635.out
           have hnb85 := NB635_632.out
           have hnc85 := NB632_635.out
           have hcz86_0 : wr.cell? ⟨gb635, 0, none⟩ = some (u636000) := (blk_cell BK635.out 0).trans rfl
           have hfz86_0 := blk_frozen BK635.out 0
           obtain ⟨Ao87, co87, eo87⟩ := Kd.S_slice HO_636000.out
           subst eo87
           go_wp2_with (first | ((with_reducible refine gate_callee (f := 43) rfl ?_); refine goesL_ (some 58) rfl rfl Try.func43 (by kernel_rfl) rfl #[.agg #[.slice Ao87 x636000_3.length co87]] rfl (by (try simp only [List.map_toArray, List.map_cons, List.map_nil]); first | done | rfl | (simp only [List.length_drop, List.length_take]; rfl)) ?_; (with_reducible refine (spec_ProgOk.calls k3 _ _ x636000_3 false _ ?side1 ?side2 A66.out).mono ?_); (case side1 => repeat (first | exact (Kd.S_reads' HO_636000.out).2.2 | (with_reducible refine Kd.C_alloc ?_ _) | (with_reducible refine Kd.C_drewN ?_ _) | (with_reducible refine Kd.C_drew ?_))); (case side2 => exact (Kd.S_reads' HO_636000.out).2.1); rintro e w88 ⟨rfl, hb⟩; refine ⟨_, rfl, ?_⟩; have n0_ := am_ (Kd.S_below (su HO_636000.out) hb); have n1_ := am_ (blk_below (bu BK630.out) hb); have n2_ := am_ (blk_below (bu BK631.out) hb); have n3_ := am_ (blk_below (bu BK632.out) hb); have n4_ := am_ (blk_below (bu BK635.out) hb); have n5_ := am_ (below_step z38_12 hb); clear HO_636000 BK630 BK631 BK632 BK635 HB; have HO_636000 := n0_; have BK630 := n1_; have BK631 := n2_; have BK632 := n3_; have BK635 := n4_; have HB := n5_; clear n0_ n1_ n2_ n3_ n4_ n5_; (try clear hb); (try clear hb2); (try clear hk); (try clear hi); have hnb89 := NB632_630.out; have hnc89 := NB630_632.out; have hcz90_0 : w88.cell? ⟨gb632, 0, none⟩ = some (.slice none 0 0) := (blk_cell BK632.out 0).trans rfl; have hfz90_0 := blk_frozen BK632.out 0))
           refine bodyPost_ret (results_ct rfl _ _ gb632 35 #[.slice none 0 0] (0, 0) _ rfl z38_14 Try.underlying35 rfl (by kernel_rfl)) rfl ?_
           exact ⟨_, z38_3, z38_5, z38_12⟩

end Go.Proofs.Ytefkbmhkhpekjaa.PB

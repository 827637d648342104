-- Written by this session's wip/myprint.py (the kit's print.py, with hand-written chunks). Lean checks it.
import Derived.Test.YtefkbmhkhpekjaaPBx0
import Derived.Test.YtefkbmhkhpekjaaPBx43
import Derived.Test.YtefkbmhkhpekjaaPBx87
import Derived.Test.YtefkbmhkhpekjaaPBx88
import Derived.Test.YtefkbmhkhpekjaaJFnTurnOkx0
namespace Go.Proofs.Ytefkbmhkhpekjaa.PB
open Go.RowKit Go.Proofs.YtefkbmhkhpekjaaW.PrintWords Go.Proofs.YtefkbmhkhpekjaaW.PrintLast Go.Proofs.YtefkbmhkhpekjaaW.PrintMore
attribute [local go_sem] max2_int min2_int max_two min_two max_three min_three max_four min_four   -- for this text's walks alone
open Go.Proofs.YtefkbmhkhpekjaaMine
set_option linter.unusedVariables false
set_option linter.unusedSimpArgs false

theorem z58_1 {p : Prop} (h : p := by first | rfl | (simp; done) | (simp [*]; done)) : p := h
theorem z58_2 {p : Prop} (h : p := by first | (with_reducible assumption) | assumption) : p := h
theorem z58_3 {p : Prop} (h : p := by first | rfl | (simp [errW_none, errW_some] <;> rfl) | (simp [*, errW_none, errW_some] <;> rfl)) : p := h
theorem z58_4 {p : Prop} (h : p := by repeat (first | (with_reducible first | exact HB.out | apply below_alloc | apply pw_below_drewN | apply below_drew1) | exact HB.out)) : p := h
theorem z58_5 {p : Prop} (h : p := by first | exact Kd.S_nil _ _ _ _ _ | exact Kd.N_nil _ _ _ _ _ | exact Kd.V_nil _ _ _ _ _ | exact Kd.Q_nil _ _ _ _ _ | exact Kd.R_nil _ _ _ _ _) : p := h
theorem z58_6 {p : Prop} (h : p := by repeat (first | (with_reducible first | exact HB.out | apply below_alloc | apply pw_below_drewN | apply below_drew1 | refine below_set ?_ GE1141.out) | exact HB.out)) : p := h
theorem z58_7 {p : Prop} (h : p := by repeat (first | (with_reducible first | exact HB.out | apply below_alloc | apply pw_below_drewN | apply below_drew1 | refine below_set ?_ GE1141.out | refine below_set ?_ GE1142.out) | exact HB.out)) : p := h
theorem z58_8 {p : Prop} (h : p := by repeat (first | (with_reducible first | exact HB.out | apply below_alloc | apply pw_below_drewN | apply below_drew1 | refine below_set ?_ GE1141.out | refine below_set ?_ GE1142.out | refine below_set ?_ GE1145.out) | exact HB.out)) : p := h
theorem z58_9 {p : Prop} (h : p := by (with_reducible repeat (first | refine blk_drewN ?_ _ | refine blk_drew ?_ | refine blk_alloc ?_ _)); refine blk_far ?_ NB1141_1145.out _; (with_reducible repeat (first | refine blk_drewN ?_ _ | refine blk_drew ?_ | refine blk_alloc ?_ _)); exact BK1141.out) : p := h
theorem z58_10 {p : Prop} (h : p := by (with_reducible repeat (first | refine blk_drewN ?_ _ | refine blk_drew ?_ | refine blk_alloc ?_ _)); refine blk_far ?_ NB1142_1145.out _; (with_reducible repeat (first | refine blk_drewN ?_ _ | refine blk_drew ?_ | refine blk_alloc ?_ _)); exact BK1142.out) : p := h
theorem z58_11 {p : Prop} (h : p := by (with_reducible repeat (first | refine blk_drewN ?_ _ | refine blk_drew ?_ | refine blk_alloc ?_ _)); refine blk_put (cs := #[.slice none 0 0]) ?_ 0 _ rfl; (with_reducible repeat (first | refine blk_drewN ?_ _ | refine blk_drew ?_ | refine blk_alloc ?_ _)); exact BK1142.out) : p := h
/-! ### spec_TurnPlaces: function 58 -/
mutual
def spec_TurnPlaces.j0 : Nat → List Int → Bool → List (List (S85)) → Option ((List (List (S85))) × Bool)
  | 0, _, _, _ => none
  | k + 1, x1, x17, x1142000 => if x17 = true then (some (([] : List (List (S85))), false)) else (spec_TurnPlaces.l0 k x1 0 x1142000 ([] : List (List (S85))))
def spec_TurnPlaces.l0 : Nat → List Int → Int → List (List (S85)) → List (List (S85)) → Option ((List (List (S85))) × Bool)
  | 0, _, _, _, _ => none
  | k + 1, x1, x7, x1142000, x1146000 => if x7 < (x1142000.length : Int) then ((some (([] : List (S85)) : List (S85))).bind fun y1146 => (if 0 ≤ x7 then (if y1146.length + (rd_L7 x1142000 x7).length < 5864062014805 then (spec_TurnPlaces.l1 k x1 x7 (y1146 ++ (rd_L7 x1142000 x7)) 0 x1142000 x1146000) else (none)) else (none))) else (some (x1146000, true))
def spec_TurnPlaces.l1 : Nat → List Int → Int → List (S85) → Int → List (List (S85)) → List (List (S85)) → Option ((List (List (S85))) × Bool)
  | 0, _, _, _, _, _, _ => none
  | k + 1, x1, x7, x8, x9, x1142000, x1146000 => if x9 < (x8.length : Int) then (if 0 ≤ x9 then ((spec_l1Reads.f ((rd_T85 x8 x9).f0) ((rd_T85 x8 x9).f1) ((rd_T85 x8 x9).f2)).bind fun t1157 => (if t1157 = true then (if 0 ≤ ((rd_T85 x8 x9).f1) then (if ((rd_T85 x8 x9).f1) < (x1.length : Int) then (spec_TurnPlaces.l1 k x1 x7 (x8.set (x9 : Int).toNat (⟨(rd_T85 x8 x9).f0, rd x1 ((rd_T85 x8 x9).f1), (rd_T85 x8 x9).f2⟩ : S85)) (wrap64 (x9 + 1)) x1142000 x1146000) else (none)) else (none)) else ((spec_l1Writes.f ((rd_T85 x8 x9).f0) ((rd_T85 x8 x9).f1) ((rd_T85 x8 x9).f2)).bind fun t1162 => (if t1162 = true then (if 0 ≤ ((rd_T85 x8 x9).f1) then (if ((rd_T85 x8 x9).f1) < (x1.length : Int) then (spec_TurnPlaces.l1 k x1 x7 (x8.set (x9 : Int).toNat (⟨(rd_T85 x8 x9).f0, rd x1 ((rd_T85 x8 x9).f1), (rd_T85 x8 x9).f2⟩ : S85)) (wrap64 (x9 + 1)) x1142000 x1146000) else (none)) else (none)) else (spec_TurnPlaces.l1 k x1 x7 x8 (wrap64 (x9 + 1)) x1142000 x1146000))))) else (none)) else (if x1146000.length < 5864062014805 then (spec_TurnPlaces.l0 k x1 (wrap64 (x7 + 1)) x1142000 (x1146000 ++ [x8])) else (none))
end
def spec_TurnPlaces.f (k : Nat) (l0_0 : List (List (S85))) (l1 : List Int) : Option ((List (List (S85))) × Bool) := (spec_ProgOk.f k l0_0).bind fun t1143 => (if t1143 = true then ((spec_l22Row.f k l1 3).bind fun t1144 => (spec_TurnPlaces.j0 k l1 (!t1144) l0_0)) else (spec_TurnPlaces.j0 k l1 true l0_0))
theorem spec_TurnPlaces.mono_l : ∀ k, (∀ y0 y1 y2, LeO (spec_TurnPlaces.j0 k y0 y1 y2) (spec_TurnPlaces.j0 (k + 1) y0 y1 y2)) ∧ (∀ y0 y1 y2 y3, LeO (spec_TurnPlaces.l0 k y0 y1 y2 y3) (spec_TurnPlaces.l0 (k + 1) y0 y1 y2 y3)) ∧ (∀ y0 y1 y2 y3 y4 y5, LeO (spec_TurnPlaces.l1 k y0 y1 y2 y3 y4 y5) (spec_TurnPlaces.l1 (k + 1) y0 y1 y2 y3 y4 y5))
  | 0 => ⟨fun _ _ _ r h => by simp [spec_TurnPlaces.j0] at h, fun _ _ _ _ r h => by simp [spec_TurnPlaces.l0] at h, fun _ _ _ _ _ _ r h => by simp [spec_TurnPlaces.l1] at h⟩
  | k + 1 => by
    obtain ⟨ih0, ih1, ih2⟩ := spec_TurnPlaces.mono_l k
    refine ⟨?_, ?_, ?_⟩
    · intro y0 y1 y2
      unfold spec_TurnPlaces.j0
      repeat' first
      | (with_reducible exact ih0 _ _ _)
      | (with_reducible exact ih1 _ _ _ _)
      | (with_reducible exact ih2 _ _ _ _ _ _)
      | (with_reducible exact spec_ProgOk.mono _ _)
      | (with_reducible exact spec_l22Row.mono _ _ _)
      | (with_reducible exact LeO.refl _)
      | (with_reducible exact LeO.none _)
      | (with_reducible refine LeO.ite ?_ ?_)
      | (with_reducible refine LeO.bind ?_ (fun _ => ?_))
      | exact ih0 _ _ _
      | exact ih1 _ _ _ _
      | exact ih2 _ _ _ _ _ _
      | exact spec_ProgOk.mono _ _
      | exact spec_l22Row.mono _ _ _
      | exact LeO.none _
      | refine LeO.ite ?_ ?_
      | refine LeO.bind ?_ (fun _ => ?_)
    · intro y0 y1 y2 y3
      unfold spec_TurnPlaces.l0
      repeat' first
      | (with_reducible exact ih0 _ _ _)
      | (with_reducible exact ih1 _ _ _ _)
      | (with_reducible exact ih2 _ _ _ _ _ _)
      | (with_reducible exact spec_ProgOk.mono _ _)
      | (with_reducible exact spec_l22Row.mono _ _ _)
      | (with_reducible exact LeO.refl _)
      | (with_reducible exact LeO.none _)
      | (with_reducible refine LeO.ite ?_ ?_)
      | (with_reducible refine LeO.bind ?_ (fun _ => ?_))
      | exact ih0 _ _ _
      | exact ih1 _ _ _ _
      | exact ih2 _ _ _ _ _ _
      | exact spec_ProgOk.mono _ _
      | exact spec_l22Row.mono _ _ _
      | exact LeO.none _
      | refine LeO.ite ?_ ?_
      | refine LeO.bind ?_ (fun _ => ?_)
    · intro y0 y1 y2 y3 y4 y5
      unfold spec_TurnPlaces.l1
      repeat' first
      | (with_reducible exact ih0 _ _ _)
      | (with_reducible exact ih1 _ _ _ _)
      | (with_reducible exact ih2 _ _ _ _ _ _)
      | (with_reducible exact spec_ProgOk.mono _ _)
      | (with_reducible exact spec_l22Row.mono _ _ _)
      | (with_reducible exact LeO.refl _)
      | (with_reducible exact LeO.none _)
      | (with_reducible refine LeO.ite ?_ ?_)
      | (with_reducible refine LeO.bind ?_ (fun _ => ?_))
      | exact ih0 _ _ _
      | exact ih1 _ _ _ _
      | exact ih2 _ _ _ _ _ _
      | exact spec_ProgOk.mono _ _
      | exact spec_l22Row.mono _ _ _
      | exact LeO.none _
      | refine LeO.ite ?_ ?_
      | refine LeO.bind ?_ (fun _ => ?_)
theorem spec_TurnPlaces.mono : ∀ a0 a1 k, LeO (spec_TurnPlaces.f k a0 a1) (spec_TurnPlaces.f (k + 1) a0 a1) := by
  intro a0 a1 k
  obtain ⟨ih0, ih1, ih2⟩ := spec_TurnPlaces.mono_l k
  unfold spec_TurnPlaces.f
  repeat' first
      | (with_reducible exact ih0 _ _ _)
      | (with_reducible exact ih1 _ _ _ _)
      | (with_reducible exact ih2 _ _ _ _ _ _)
      | (with_reducible exact spec_ProgOk.mono _ _)
      | (with_reducible exact spec_l22Row.mono _ _ _)
      | (with_reducible exact LeO.refl _)
      | (with_reducible exact LeO.none _)
      | (with_reducible refine LeO.ite ?_ ?_)
      | (with_reducible refine LeO.bind ?_ (fun _ => ?_))
      | exact ih0 _ _ _
      | exact ih1 _ _ _ _
      | exact ih2 _ _ _ _ _ _
      | exact spec_ProgOk.mono _ _
      | exact spec_l22Row.mono _ _ _
      | exact LeO.none _
      | refine LeO.ite ?_ ?_
      | refine LeO.bind ?_ (fun _ => ?_)
set_option maxHeartbeats 8000000 in
set_option maxRecDepth 100000 in
theorem spec_TurnPlaces.calls (k : Nat) (A0_0 : Option Addr) (c0_0 : Nat) (l0_0 : List (List (S85))) (A1 : Option Addr) (c1 : Nat) (l1 : List Int) (r1 : List (List (S85))) (r2 : Bool) (w : World) (hr0_0 : Kd.C (Kd.slice 85 k85) w A0_0 l0_0.length l0_0) (hc0_0 : l0_0.length ≤ c0_0) (hr1 : Kd.C (Kd.int .i64) w A1 l1.length l1) (hc1 : l1.length ≤ c1) (h : spec_TurnPlaces.f k l0_0 l1 = some (r1, r2)) :
  Calls Try.prog 58 #[.agg #[.slice A0_0 l0_0.length c0_0], .slice A1 l1.length c1] w fun e w' => ∃ v0_ : Value, e = .returned (.tuple #[.agg #[v0_], .bool r2]) ∧ Kd.S (Kd.slice 85 k85) 82 w' w.heap.size (fun _ => True) v0_ r1 ∧ Below w.heap.size w w' := by
 have hu35 := Try.underlying35
 have hu85 := Try.underlying85
 have HR0_0 := am_ hr0_0
 have HC0_0 := am_ hc0_0
 clear hr0_0 hc0_0
 have HR1 := am_ hr1
 have HC1 := am_ hc1
 clear hr1 hc1
 have HB := am_ (Below.refl w.heap.size w)
 have H : ((spec_ProgOk.f k l0_0).bind fun t1143 => (if t1143 = true then ((spec_l22Row.f k l1 3).bind fun t1144 => (spec_TurnPlaces.j0 k l1 (!t1144) l0_0)) else (spec_TurnPlaces.j0 k l1 true l0_0))) = some (r1, r2) := h
 clear h
 have HC3 := am_ H
 clear H
 go_enter Try.func58, Try.ntmps58
 go_upto_region 1 with (first | ((with_reducible refine gate_dst (N := 2) rfl ?_); refine box_event ?hg (N := 2) ?hd (cs := #[.slice A0_0 l0_0.length c0_0]) (t := 35) ?hr ?_; (case hd => rfl); (case hg => rfl); (case hr => first | (go_simp; done) | (go_simp; rfl)); intro gb1141 hg w4 hbox hb; have n0_ := am_ (below_step z58_4 hb); have n1_ := am_ (hbox); have n2_ := am_ (by rw [hg]; exact (below_size z58_4) : w.heap.size ≤ gb1141); have n3_ := am_ (by rw [hg]; exact (below_size z58_4) : w.heap.size ≤ gb1141); clear HB; have HB := n0_; have BK1141 := n1_; have GW1141 := n2_; have GE1141 := n3_; clear n0_ n1_ n2_ n3_; clear hb hbox hg) | ((with_reducible refine gate_dst (N := 4) rfl ?_); refine box_event ?hg (N := 4) ?hd (cs := #[.slice none 0 0]) (t := 35) ?hr ?_; (case hd => rfl); (case hg => rfl); (case hr => first | (go_simp; done) | (go_simp; rfl)); intro gb1142 hg w5 hbox hb; have n0_ := am_ (blk_below (bu BK1141.out) hb); have n1_ := am_ (below_step z58_6 hb); have n2_ := am_ (hbox); have n3_ := am_ (by rw [hg]; exact (below_size z58_6) : w.heap.size ≤ gb1142); have n4_ := am_ (by rw [hg]; exact (below_size z58_6) : w.heap.size ≤ gb1142); have n5_ := am_ (by rw [hg]; exact Nat.ne_of_lt (blk_lt (bu BK1141.out)) : gb1141 ≠ gb1142); have n6_ := am_ (by rw [hg]; exact Nat.ne_of_gt (blk_lt (bu BK1141.out)) : gb1142 ≠ gb1141); clear BK1141 HB; have BK1141 := n0_; have HB := n1_; have BK1142 := n2_; have GW1142 := n3_; have GE1142 := n4_; have NB1141_1142 := n5_; have NB1142_1141 := n6_; clear n0_ n1_ n2_ n3_ n4_ n5_ n6_; clear hb hbox hg))
 (try simp only [Act.put, List.setIfInBounds_toArray, List.set_cons_zero, List.set_cons_succ])
 go_cut [17] (fun v17 wc => ∃ (kq : Nat) (x17_2 : Bool), v17 = .bool x17_2 ∧ Aside0 (spec_TurnPlaces.j0 kq l1 x17_2 l0_0 = some (r1, r2)) ∧ Aside0 (kq ≤ k) ∧ Aside0 (wc.heap[gb1141]? = some (.cells #[(.slice A0_0 l0_0.length c0_0)] 35 (0, 0))) ∧ Aside0 (wc.heap[gb1142]? = some (.cells #[(.slice none 0 0)] 35 (0, 0))) ∧ Aside0 (Below w.heap.size w wc))
 case first =>
  have H := HC3.out
  clear HC3
  replace H := Option.bind_eq_some_iff.mp H
  obtain ⟨t1143, A60, H⟩ := H
  replace H : (if t1143 = true then ((spec_l22Row.f k l1 3).bind fun t1144 => (spec_TurnPlaces.j0 k l1 (!t1144) l0_0)) else (spec_TurnPlaces.j0 k l1 true l0_0)) = some (r1, r2) := H
  have A6 := am_ A60
  clear A60
  by_cases c7 : t1143 = true
  ·subst c7
   have H1 : ((spec_l22Row.f k l1 3).bind fun t1144 => (spec_TurnPlaces.j0 k l1 (!t1144) l0_0)) = some (r1, r2) := by rw [if_pos rfl] at H; exact H
   clear H
   have H := H1
   clear H1
   replace H := Option.bind_eq_some_iff.mp H
   obtain ⟨t1144, A80, H⟩ := H
   replace H : (spec_TurnPlaces.j0 k l1 (!t1144) l0_0) = some (r1, r2) := H
   have A8 := am_ A80
   clear A80
   have H' := am_ H
   clear H
   have hnb9 := NB1141_1142.out
   have hnc9 := NB1142_1141.out
   have hcz10_0 : w5.cell? ⟨gb1141, 0, none⟩ = some (.slice A0_0 l0_0.length c0_0) := (blk_cell BK1141.out 0).trans rfl
   have hfz10_0 := blk_frozen BK1141.out 0
   go_wp2_with (first | ((with_reducible refine gate_callee (f := 43) rfl ?_); refine goesL_ (some 11) rfl rfl Try.func43 (by kernel_rfl) rfl #[.agg #[.slice A0_0 l0_0.length c0_0]] rfl (by (try simp only [List.map_toArray, List.map_cons, List.map_nil]); first | done | rfl | (simp only [List.length_drop, List.length_take]; rfl)) ?_; (with_reducible refine (spec_ProgOk.calls k _ _ l0_0 true _ ?side1 ?side2 A6.out).mono ?_); (case side1 => repeat (first | exact (Kd.C_below HR0_0.out HB.out) | (with_reducible refine Kd.C_alloc ?_ _) | (with_reducible refine Kd.C_drewN ?_ _) | (with_reducible refine Kd.C_drew ?_))); (case side2 => exact HC0_0.out); rintro e w11 ⟨rfl, hb⟩; refine ⟨_, rfl, ?_⟩; have n0_ := am_ (blk_below (bu BK1141.out) hb); have n1_ := am_ (blk_below (bu BK1142.out) hb); have n2_ := am_ (below_step z58_7 hb); clear BK1141 BK1142 HB; have BK1141 := n0_; have BK1142 := n1_; have HB := n2_; clear n0_ n1_ n2_; (try clear hb); (try clear hb2); (try clear hk); (try clear hi)) | (go_at_call 100; (with_reducible refine (spec_l22Row.calls k _ _ l1 3 t1144 _ ?side1 ?side2 A8.out).mono ?_); (case side1 => repeat (first | exact (Kd.C_below HR1.out HB.out) | (with_reducible refine Kd.C_alloc ?_ _) | (with_reducible refine Kd.C_drewN ?_ _) | (with_reducible refine Kd.C_drew ?_))); (case side2 => exact HC1.out); rintro e w' ⟨rfl, ⟨nd, rfl⟩⟩))
   go_meet
   case rel => exact ⟨_, (!t1144), z58_1, H', ⟨by first | omega | exact Nat.le_refl _⟩, ⟨bu BK1141.out⟩, ⟨bu BK1142.out⟩, ⟨z58_7⟩⟩
  ·replace c7 := Bool.eq_false_iff.mpr c7
   subst c7
   have H1 : (spec_TurnPlaces.j0 k l1 true l0_0) = some (r1, r2) := by rw [if_neg (show ¬ (false = true) by decide)] at H; exact H
   clear H
   have H := H1
   clear H1
   have H' := am_ H
   clear H
   have hnb12 := NB1141_1142.out
   have hnc12 := NB1142_1141.out
   have hcz13_0 : w5.cell? ⟨gb1141, 0, none⟩ = some (.slice A0_0 l0_0.length c0_0) := (blk_cell BK1141.out 0).trans rfl
   have hfz13_0 := blk_frozen BK1141.out 0
   go_wp2_with (first | ((with_reducible refine gate_callee (f := 43) rfl ?_); refine goesL_ (some 11) rfl rfl Try.func43 (by kernel_rfl) rfl #[.agg #[.slice A0_0 l0_0.length c0_0]] rfl (by (try simp only [List.map_toArray, List.map_cons, List.map_nil]); first | done | rfl | (simp only [List.length_drop, List.length_take]; rfl)) ?_; (with_reducible refine (spec_ProgOk.calls k _ _ l0_0 false _ ?side1 ?side2 A6.out).mono ?_); (case side1 => repeat (first | exact (Kd.C_below HR0_0.out HB.out) | (with_reducible refine Kd.C_alloc ?_ _) | (with_reducible refine Kd.C_drewN ?_ _) | (with_reducible refine Kd.C_drew ?_))); (case side2 => exact HC0_0.out); rintro e w14 ⟨rfl, hb⟩; refine ⟨_, rfl, ?_⟩; have n0_ := am_ (blk_below (bu BK1141.out) hb); have n1_ := am_ (blk_below (bu BK1142.out) hb); have n2_ := am_ (below_step z58_7 hb); clear BK1141 BK1142 HB; have BK1141 := n0_; have BK1142 := n1_; have HB := n2_; clear n0_ n1_ n2_; (try clear hb); (try clear hb2); (try clear hk); (try clear hi)))
   go_meet
   case rel => exact ⟨_, (true), z58_1, H', ⟨by first | omega | exact Nat.le_refl _⟩, ⟨bu BK1141.out⟩, ⟨bu BK1142.out⟩, ⟨z58_7⟩⟩
 case rest =>
  clear HC3
  obtain ⟨kq, x17_2, rfl, HA, HJ2, BK1141, BK1142, HB⟩ := hcut
  cases kq with
  | zero => exact absurd HA.out (by simp [spec_TurnPlaces.j0])
  | succ kj2 =>
   have H := HA.out
   clear HA
   simp only [spec_TurnPlaces.j0] at H
   by_cases c15 : x17_2 = true
   ·subst c15
    have H1 : (some (([] : List (List (S85))), false)) = some (r1, r2) := by rw [if_pos rfl] at H; exact H
    clear H
    have H := H1
    clear H1
    simp only [Option.some.injEq, Prod.mk.injEq] at H
    obtain ⟨rfl, rfl⟩ := H
    have hnb16 := NB1142_1141.out
    have hnc16 := NB1141_1142.out
    have hcz17_0 : wc.cell? ⟨gb1142, 0, none⟩ = some (.slice none 0 0) := (blk_cell BK1142.out 0).trans rfl
    have hfz17_0 := blk_frozen BK1142.out 0
    go_wp2
    refine bodyPost_ret (results_ct rfl _ _ gb1142 35 #[.slice none 0 0] (0, 0) _ rfl z58_11 Try.underlying35 rfl (by kernel_rfl)) rfl ?_
    exact ⟨_, z58_3, z58_5, z58_7⟩
   ·replace c15 := Bool.eq_false_iff.mpr c15
    subst c15
    have H1 : (spec_TurnPlaces.l0 kj2 l1 0 l0_0 ([] : List (List (S85)))) = some (r1, r2) := by rw [if_neg (show ¬ (false = true) by decide)] at H; exact H
    clear H
    have H := H1
    clear H1
    have H' := am_ H
    clear H
    go_wp2_with (first | ((with_reducible refine gate_dst (N := 6) rfl ?_); refine box_event ?hg (N := 6) ?hd (cs := #[.slice none 0 0]) (t := 35) ?hr ?_; (case hd => rfl); (case hg => rfl); (case hr => first | (go_simp; done) | (go_simp; rfl)); intro gb1145 hg w18 hbox hb; have n0_ := am_ (blk_below (bu BK1141.out) hb); have n1_ := am_ (blk_below (bu BK1142.out) hb); have n2_ := am_ (below_step z58_7 hb); have n3_ := am_ (hbox); have n4_ := am_ (by rw [hg]; exact (below_size z58_7) : w.heap.size ≤ gb1145); have n5_ := am_ (by rw [hg]; exact (below_size z58_7) : w.heap.size ≤ gb1145); have n6_ := am_ (by rw [hg]; exact Nat.ne_of_lt (blk_lt (bu BK1141.out)) : gb1141 ≠ gb1145); have n7_ := am_ (by rw [hg]; exact Nat.ne_of_gt (blk_lt (bu BK1141.out)) : gb1145 ≠ gb1141); have n8_ := am_ (by rw [hg]; exact Nat.ne_of_lt (blk_lt (bu BK1142.out)) : gb1142 ≠ gb1145); have n9_ := am_ (by rw [hg]; exact Nat.ne_of_gt (blk_lt (bu BK1142.out)) : gb1145 ≠ gb1142); clear BK1141 BK1142 HB; have BK1141 := n0_; have BK1142 := n1_; have HB := n2_; have BK1145 := n3_; have GW1145 := n4_; have GE1145 := n5_; have NB1141_1145 := n6_; have NB1145_1141 := n7_; have NB1142_1145 := n8_; have NB1145_1142 := n9_; clear n0_ n1_ n2_ n3_ n4_ n5_ n6_ n7_ n8_ n9_; clear hb hbox hg; have hnb19 := NB1145_1141.out; have hnc19 := NB1141_1145.out; have hnb20 := NB1145_1142.out; have hnc20 := NB1142_1145.out; have hcz21_0 : w18.cell? ⟨gb1145, 0, none⟩ = some (.slice none 0 0) := (blk_cell BK1145.out 0).trans rfl; have hfz21_0 := blk_frozen BK1145.out 0))
    go_loopg [7] kj2 (fun kq v7 w' => ∃ (x7_2 : Int) (x1146000_2 : List (List (S85))) (u1146000 : Value), v7 = .int .i64 x7_2 ∧ Aside0 (spec_TurnPlaces.l0 kq l1 x7_2 l0_0 x1146000_2 = some (r1, r2)) ∧ Aside0 (kq ≤ kj2) ∧ Aside0 (Kd.S (Kd.slice 85 k85) 82 w' w.heap.size (fun _ => True) u1146000 x1146000_2) ∧ Aside0 (w'.heap[gb1141]? = some (.cells #[(.slice A0_0 l0_0.length c0_0)] 35 (0, 0))) ∧ Aside0 (w'.heap[gb1142]? = some (.cells #[(.slice none 0 0)] 35 (0, 0))) ∧ Aside0 (w'.heap[gb1145]? = some (.cells #[u1146000] 35 (0, 0))) ∧ Aside0 (Below w.heap.size w w'))
    case atStart => exact ⟨(0), (([] : List (List (S85)))), (.slice none 0 0), z58_1, H', ⟨Nat.le_refl _⟩, ⟨z58_5⟩, ⟨z58_9⟩, ⟨z58_10⟩, ⟨by (with_reducible repeat (first | refine blk_drewN ?_ _ | refine blk_drew ?_ | refine blk_alloc ?_ _)); refine blk_put (cs := #[.slice none 0 0]) ?_ 0 _ rfl; (with_reducible repeat (first | refine blk_drewN ?_ _ | refine blk_drew ?_ | refine blk_alloc ?_ _)); exact BK1145.out⟩, ⟨z58_8⟩⟩
    case round =>
     clear H'
     obtain ⟨x7_2, x1146000_2, u1146000, rfl, HA, HK2, HO_1146000, BK1141, BK1142, BK1145, HB⟩ := hrel
     cases gk with
     | zero => exact absurd HA.out (by simp [spec_TurnPlaces.l0])
     | succ k2 =>
      have H := HA.out
      clear HA
      simp only [spec_TurnPlaces.l0] at H
      by_cases c22 : x7_2 < (l0_0.length : Int)
      ·rw [if_pos c22] at H
       have c22b0 : decide (x7_2 < (l0_0.length : Int)) = true := decide_eq_true c22
       clear c22
       obtain ⟨y1146, hy1146⟩ : ∃ y_ : List (S85), y_ = (([] : List (S85))) := ⟨_, rfl⟩
       replace H : (if 0 ≤ x7_2 then (if y1146.length + (rd_L7 l0_0 x7_2).length < 5864062014805 then (spec_TurnPlaces.l1 k2 l1 x7_2 (y1146 ++ (rd_L7 l0_0 x7_2)) 0 l0_0 x1146000_2) else (none)) else (none)) = some (r1, r2) := by first | (rw [hy1146]; with_reducible exact H) | (have H2_ := (Option.bind_some _ _).symm.trans H; rw [hy1146]; with_reducible exact H2_) | (have H2_ := (Option.bind_some _ _).symm.trans H; with_reducible exact H2_) | with_reducible exact H | (rw [hy1146]; exact H) | exact H
       have Ny1146 := am_ hy1146
       clear hy1146
       by_cases c23 : 0 ≤ x7_2
       ·rw [if_pos c23] at H
        have c23b0 : decide (0 ≤ x7_2) = true := decide_eq_true c23
        clear c23
        by_cases c24 : y1146.length + (rd_L7 l0_0 x7_2).length < 5864062014805
        ·rw [if_pos c24] at H
         have LMc24 := am_ c24
         clear c24
         obtain ⟨y1150, hy1150⟩ : ∃ y_ : List (S85), y_ = (y1146 ++ (rd_L7 l0_0 x7_2)) := ⟨_, rfl⟩
         replace H : (spec_TurnPlaces.l1 k2 l1 x7_2 y1150 0 l0_0 x1146000_2) = some (r1, r2) := by first | (rw [hy1150]; with_reducible exact H) | (have H2_ := (Option.bind_some _ _).symm.trans H; rw [hy1150]; with_reducible exact H2_) | (have H2_ := (Option.bind_some _ _).symm.trans H; with_reducible exact H2_) | with_reducible exact H | (rw [hy1150]; exact H) | exact H
         have Ny1150 := am_ hy1150
         clear hy1150
         have H' := am_ H
         clear H
         have hnb25 := NB1141_1142.out
         have hnc25 := NB1142_1141.out
         have hnb26 := NB1141_1145.out
         have hnc26 := NB1145_1141.out
         have hcz27_0 : wr.cell? ⟨gb1141, 0, none⟩ = some (.slice A0_0 l0_0.length c0_0) := (blk_cell BK1141.out 0).trans rfl
         have hfz27_0 := blk_frozen BK1141.out 0
         go_wp2_with (first | ((with_reducible refine gate_dst (N := 27) rfl ?_); refine Kd.R_lit k85 _ 85 ?hg (N := 27) ?hd (xs := ([] : List (S85))) (inner := []) (ok := fun _ => True) (okp := fun _ => True) ?hr ?hp (fun _ hk => hk) trivial (Below.refl _ _) (Nat.le_refl _) (by simp) ?_; (case hd => rfl); (case hg => rfl); (case hr => first | (go_simp; done) | (go_simp; rfl)); (case hp => exact (Reps.none _ _)); intro v1147 w28 ho29 hb hg_ hnew_; clear hg_ hnew_; (first | rw [← Ny1146.out] at ho29 | (simp only [Int.reduceToNat] at ho29; rw [← Ny1146.out] at ho29)); have n0_ := am_ (Kd.S_elder' (su HO_1146000.out) (Kd.R_base ho29) hb); have n1_ := am_ (Kd.R_lower ho29 (below_size z58_8)); have n2_ := am_ (blk_below (bu BK1141.out) hb); have n3_ := am_ (blk_below (bu BK1142.out) hb); have n4_ := am_ (blk_below (bu BK1145.out) hb); have n5_ := am_ (below_step z58_8 hb); clear HO_1146000 BK1141 BK1142 BK1145 HB; have HO_1146000 := n0_; have HO1148 := n1_; have BK1141 := n2_; have BK1142 := n3_; have BK1145 := n4_; have HB := n5_; clear n0_ n1_ n2_ n3_ n4_ n5_; clear hb ho29; have hcz30_0 : w28.cell? ⟨gb1141, 0, none⟩ = some (.slice A0_0 l0_0.length c0_0) := (blk_cell BK1141.out 0).trans rfl; have hfz30_0 := blk_frozen BK1141.out 0; have p1149 : 0 ≤ (x7_2 : Int) := of_decide_eq_true z58_2; have q1149 : x7_2 < (l0_0.length : Int) := of_decide_eq_true z58_2; obtain ⟨ad1149, A1149_0, c1149_0, e1149, hx1149_0, hl1149_0, hi1149_0⟩ := at_L7 HR0_0.out x7_2 p1149 q1149; cases e1149; replace hx1149_0 := (HB.out.cell (World.block_lt_of_cell? w _ hx1149_0)).trans hx1149_0; have HR1149_0 := am_ hi1149_0; have HC1149_0 := am_ hl1149_0; clear hi1149_0 hl1149_0; replace p1149 := eq_true p1149; replace q1149 := eq_true q1149) | ((with_reducible refine gate_builtin (b := .append) (xs := #[.tmp 27, .tmp 32]) rfl ?_); at_builtin; refine Kd.R_append_rows k85 (w0 := w) w.heap.size rfl (.tmp 27) (.tmp 32) 82 85 (.agg #[(.int .i64 0), (.int .i64 0), (.int .i64 0)]) 24 rfl Try.underlying82 info85 rfl (by decide) (by omega) v1147 y1146 (rd_L7 l0_0 x7_2) _ _ _ (fun _ => True) (fun _ => False) rfl rfl ?aO ?aR (fun _ _ h => h) (fun _ h => h.elim) ?aF ?aB ?aS ?aL ?_; (case aR => repeat (first | exact (Kd.C_below HR1149_0.out HB.out) | (with_reducible refine Kd.C_alloc ?_ _) | (with_reducible refine Kd.C_drewN ?_ _) | (with_reducible refine Kd.C_drew ?_))); (case aB => exact z58_8); (case aF => exact (fun _ _ => trivial)); (case aO => exact (ru HO1148.out)); (case aS => exact (below_size z58_8)); (case aL => have := LMc24.out; omega); intro v1151 w31 ho hb hg hat; rw [← Ny1150.out] at ho; have n0_ := am_ (Kd.S_after (ok := (fun _ => True)) (su HO_1146000.out) hg hat); have n1_ := am_ (blk_grown (bu BK1141.out) hg (Kd.R_ne HO1148.out BK1141.out (by decide))); have n2_ := am_ (blk_grown (bu BK1142.out) hg (Kd.R_ne HO1148.out BK1142.out (by decide))); have n3_ := am_ (blk_grown (bu BK1145.out) hg (Kd.R_ne HO1148.out BK1145.out (by decide))); have n4_ := am_ (hb); have n5_ := am_ (ho); clear HO_1146000 BK1141 BK1142 BK1145 HB HO1148; have HO_1146000 := n0_; have BK1141 := n1_; have BK1142 := n2_; have BK1145 := n3_; have HB := n4_; have HO1152 := n5_; clear n0_ n1_ n2_ n3_ n4_ n5_; clear ho hb hg hat))
         go_loopg [9] k2 (fun kq v9 w' => ∃ (x8_3 : List (S85)) (x9_3 : Int), v9 = .int .i64 x9_3 ∧ Aside0 (spec_TurnPlaces.l1 kq l1 x7_2 x8_3 x9_3 l0_0 x1146000_2 = some (r1, r2)) ∧ Aside0 (kq ≤ k2) ∧ Aside0 (Kd.R k85 85 w' w.heap.size (fun _ => True) v1151 x8_3) ∧ Aside0 (Kd.S (Kd.slice 85 k85) 82 w' w.heap.size (fun k_ => some k_ ≠ (v1151 : Value).ownBlock) u1146000 x1146000_2) ∧ Aside0 (w'.heap[gb1141]? = some (.cells #[(.slice (some ad1149) l0_0.length c0_0)] 35 (0, 0))) ∧ Aside0 (w'.heap[gb1142]? = some (.cells #[(.slice none 0 0)] 35 (0, 0))) ∧ Aside0 (w'.heap[gb1145]? = some (.cells #[u1146000] 35 (0, 0))) ∧ Aside0 (Below w.heap.size w w'))
         case atStart => exact ⟨(y1150), (0), z58_1, H', ⟨Nat.le_refl _⟩, ⟨ru HO1152.out⟩, ⟨su (Kd.S_mono HO_1146000.out (fun _ hk => hk.2))⟩, ⟨bu BK1141.out⟩, ⟨bu BK1142.out⟩, ⟨bu BK1145.out⟩, ⟨z58_8⟩⟩
         case round =>
          clear H'
          obtain ⟨x8_3, x9_3, rfl, HA, HK3, HO_8, HO_1146000, BK1141, BK1142, BK1145, HB⟩ := hrel
          cases gk with
          | zero => exact absurd HA.out (by simp [spec_TurnPlaces.l1])
          | succ k3 =>
           have H := HA.out
           clear HA
           simp only [spec_TurnPlaces.l1] at H
           by_cases c32 : x9_3 < (x8_3.length : Int)
           ·rw [if_pos c32] at H
            have c32b0 : decide (x9_3 < (x8_3.length : Int)) = true := decide_eq_true c32
            clear c32
            by_cases c33 : 0 ≤ x9_3
            ·rw [if_pos c33] at H
             have c33b0 : decide (0 ≤ x9_3) = true := decide_eq_true c33
             clear c33
             replace H := Option.bind_eq_some_iff.mp H
             obtain ⟨t1157, A340, H⟩ := H
             replace H : (if t1157 = true then (if 0 ≤ ((rd_T85 x8_3 x9_3).f1) then (if ((rd_T85 x8_3 x9_3).f1) < (l1.length : Int) then (spec_TurnPlaces.l1 k3 l1 x7_2 (x8_3.set (x9_3 : Int).toNat (⟨(rd_T85 x8_3 x9_3).f0, rd l1 ((rd_T85 x8_3 x9_3).f1), (rd_T85 x8_3 x9_3).f2⟩ : S85)) (wrap64 (x9_3 + 1)) l0_0 x1146000_2) else (none)) else (none)) else ((spec_l1Writes.f ((rd_T85 x8_3 x9_3).f0) ((rd_T85 x8_3 x9_3).f1) ((rd_T85 x8_3 x9_3).f2)).bind fun t1162 => (if t1162 = true then (if 0 ≤ ((rd_T85 x8_3 x9_3).f1) then (if ((rd_T85 x8_3 x9_3).f1) < (l1.length : Int) then (spec_TurnPlaces.l1 k3 l1 x7_2 (x8_3.set (x9_3 : Int).toNat (⟨(rd_T85 x8_3 x9_3).f0, rd l1 ((rd_T85 x8_3 x9_3).f1), (rd_T85 x8_3 x9_3).f2⟩ : S85)) (wrap64 (x9_3 + 1)) l0_0 x1146000_2) else (none)) else (none)) else (spec_TurnPlaces.l1 k3 l1 x7_2 x8_3 (wrap64 (x9_3 + 1)) l0_0 x1146000_2)))) = some (r1, r2) := H
             have A34 := am_ A340
             clear A340
             by_cases c35 : t1157 = true
             ·subst c35
              have H1 : (if 0 ≤ ((rd_T85 x8_3 x9_3).f1) then (if ((rd_T85 x8_3 x9_3).f1) < (l1.length : Int) then (spec_TurnPlaces.l1 k3 l1 x7_2 (x8_3.set (x9_3 : Int).toNat (⟨(rd_T85 x8_3 x9_3).f0, rd l1 ((rd_T85 x8_3 x9_3).f1), (rd_T85 x8_3 x9_3).f2⟩ : S85)) (wrap64 (x9_3 + 1)) l0_0 x1146000_2) else (none)) else (none)) = some (r1, r2) := by rw [if_pos rfl] at H; exact H
              clear H
              have H := H1
              clear H1
              by_cases c36 : 0 ≤ ((rd_T85 x8_3 x9_3).f1)
              ·rw [if_pos c36] at H
               have c36b0 : decide (0 ≤ ((rd_T85 x8_3 x9_3).f1)) = true := decide_eq_true c36
               clear c36
               by_cases c37 : ((rd_T85 x8_3 x9_3).f1) < (l1.length : Int)
               ·rw [if_pos c37] at H
                have c37b0 : decide (((rd_T85 x8_3 x9_3).f1) < (l1.length : Int)) = true := decide_eq_true c37
                clear c37
                obtain ⟨y1160, hy1160⟩ : ∃ y_ : List (S85), y_ = (x8_3.set (x9_3 : Int).toNat (⟨(rd_T85 x8_3 x9_3).f0, rd l1 ((rd_T85 x8_3 x9_3).f1), (rd_T85 x8_3 x9_3).f2⟩ : S85)) := ⟨_, rfl⟩
                replace H : (spec_TurnPlaces.l1 k3 l1 x7_2 y1160 (wrap64 (x9_3 + 1)) l0_0 x1146000_2) = some (r1, r2) := by first | (rw [hy1160]; with_reducible exact H) | (have H2_ := (Option.bind_some _ _).symm.trans H; rw [hy1160]; with_reducible exact H2_) | (have H2_ := (Option.bind_some _ _).symm.trans H; with_reducible exact H2_) | with_reducible exact H | (rw [hy1160]; exact H) | exact H
                have Ny1160 := am_ hy1160
                clear hy1160
                have H' := am_ H
                clear H
                obtain ⟨Ao39, co39, eo39⟩ := Kd.R_slice HO_8.out
                subst eo39
                have p1156 : 0 ≤ (x9_3 : Int) := of_decide_eq_true z58_2
                have q1156 : x9_3 < (x8_3.length : Int) := of_decide_eq_true z58_2
                obtain ⟨ad1156, e1156, hx1156_0, hx1156_1, hx1156_2⟩ := at_T85 (Kd.R_reads' HO_8.out).2.2 x9_3 p1156 q1156
                cases e1156
                replace p1156 := eq_true p1156
                replace q1156 := eq_true q1156
                go_wp2_with (first | ((with_reducible refine gate_callee (f := 87) rfl ?_); refine goesL_ (some 44) rfl rfl Try.func87 (by kernel_rfl) rfl #[.agg #[.int .i64 ((rd_T85 x8_3 x9_3).f0), .int .i64 ((rd_T85 x8_3 x9_3).f1), .int .i64 ((rd_T85 x8_3 x9_3).f2)]] rfl (by (try simp only [List.map_toArray, List.map_cons, List.map_nil]); first | done | rfl | (simp only [List.length_drop, List.length_take]; rfl)) ?_; (with_reducible refine (spec_l1Reads.calls ((rd_T85 x8_3 x9_3).f0) ((rd_T85 x8_3 x9_3).f1) ((rd_T85 x8_3 x9_3).f2) true _ A34.out).mono ?_); rintro e w40 ⟨rfl, hb⟩; refine ⟨_, rfl, ?_⟩; have n0_ := am_ (Kd.R_below (ru HO_8.out) hb); have n1_ := am_ (Kd.S_below (su HO_1146000.out) hb); have n2_ := am_ (blk_below (bu BK1141.out) hb); have n3_ := am_ (blk_below (bu BK1142.out) hb); have n4_ := am_ (blk_below (bu BK1145.out) hb); have n5_ := am_ (below_step z58_8 hb); clear HO_8 HO_1146000 BK1141 BK1142 BK1145 HB; have HO_8 := n0_; have HO_1146000 := n1_; have BK1141 := n2_; have BK1142 := n3_; have BK1145 := n4_; have HB := n5_; clear n0_ n1_ n2_ n3_ n4_ n5_; (try clear hb); (try clear hb2); (try clear hk); (try clear hi); have p1158 : 0 ≤ (x9_3 : Int) := of_decide_eq_true z58_2; have q1158 : x9_3 < (x8_3.length : Int) := of_decide_eq_true z58_2; obtain ⟨ad1158, e1158, hx1158_0, hx1158_1, hx1158_2⟩ := at_T85 (Kd.R_reads' HO_8.out).2.2 x9_3 p1158 q1158; obtain rfl : ad1156 = ad1158 := (by injection e1158); replace p1158 := eq_true p1158; replace q1158 := eq_true q1158; have p1159 : 0 ≤ (((rd_T85 x8_3 x9_3).f1) : Int) := of_decide_eq_true z58_2; have q1159 : ((rd_T85 x8_3 x9_3).f1) < (l1.length : Int) := of_decide_eq_true z58_2; obtain ⟨ad1159, e1159, hx1159_0⟩ := Kd.at_int HR1.out ((rd_T85 x8_3 x9_3).f1) p1159 q1159; cases e1159; replace hx1159_0 := (HB.out.cell (World.block_lt_of_cell? w _ hx1159_0)).trans hx1159_0; replace p1159 := eq_true p1159; replace q1159 := eq_true q1159; have p38 : 0 ≤ (x9_3 : Int) := of_decide_eq_true z58_2; have q38 : (x9_3 : Int) < ((x8_3.length : Int) : Int) := of_decide_eq_true z58_2; obtain ⟨go38, co38, eo38, gb38, gl38, cl38, HG38⟩ := Kd.R_form HO_8.out (by omega); (first | cases eo38 | (injection eo38 with ea_ en_ ec_; (first | subst ea_ | (injection ea_ with ea_; subst ea_)); subst ec_; clear en_)); have GB38 := am_ gb38; have GG38 := am_ HG38; clear gb38 gl38 HG38; (first | simp only [add_plain] at hx1156_0 | skip); (first | simp only [add_plain] at hx1156_1 | skip); (first | simp only [add_plain] at hx1156_2 | skip); (first | simp only [add_plain] at hx1158_0 | skip); (first | simp only [add_plain] at hx1158_1 | skip); (first | simp only [add_plain] at hx1158_2 | skip); obtain ⟨ce38, hcl38, hM38, hcc38, hfr38⟩ := Kd.R_elem HO_8.out z85 (x9_3 : Int) p38 q38; obtain rfl := k85_openM hM38; have hx38_0 : w40.cell? ⟨go38, (x9_3 : Int).toNat * 3, none⟩ = some (.int .i64 ((rd_T85 x8_3 x9_3).f0)) := hcc38 0 _ rfl; have hx38_1 : w40.cell? ⟨go38, (x9_3 : Int).toNat * 3 + 1, none⟩ = some (.int .i64 ((rd_T85 x8_3 x9_3).f1)) := hcc38 1 _ rfl; have hx38_2 : w40.cell? ⟨go38, (x9_3 : Int).toNat * 3 + 2, none⟩ = some (.int .i64 ((rd_T85 x8_3 x9_3).f2)) := hcc38 2 _ rfl; have hf38_0 : w40.frozen? ⟨go38, (x9_3 : Int).toNat * 3, none⟩ = false := hfr38 0; have hf38_1 : w40.frozen? ⟨go38, (x9_3 : Int).toNat * 3 + 1, none⟩ = false := hfr38 1; have hf38_2 : w40.frozen? ⟨go38, (x9_3 : Int).toNat * 3 + 2, none⟩ = false := hfr38 2; clear hcl38 hcc38 hfr38 hM38; replace p38 := eq_true p38; replace q38 := eq_true q38; have HX41 := am_ (show Kd.R k85 85 w40 w.heap.size (fun _ => True) (.slice (some ⟨go38, 0, none⟩) x8_3.length co39) x8_3 from (ru HO_8.out)); obtain ⟨ce41, hcl41, hM41, hcc41, hfr41⟩ := Kd.R_elem HX41.out z85 (x9_3 : Int) (of_decide_eq_true z58_2) (by have h_ : (x9_3 : Int) < ((x8_3.length : Int) : Int) := of_decide_eq_true z58_2; first | exact h_ | (have e_ := (Kd.R_reads' HO_8.out).1; omega) | simpa using h_); obtain rfl := k85_openM hM41; have HP41 := Kd.R_seg HX41.out (x9_3 : Int) (of_decide_eq_true z58_2) (by have h_ : (x9_3 : Int) < ((x8_3.length : Int) : Int) := of_decide_eq_true z58_2; first | exact h_ | (have e_ := (Kd.R_reads' HO_8.out).1; omega) | simpa using h_) (seg := [.int .i64 (rd l1 ((rd_T85 x8_3 x9_3).f1))]) (j := 1) hcl41 hcc41 (show 2 ≤ 3 from by decide) (x' := (⟨(rd_T85 x8_3 x9_3).f0, rd l1 ((rd_T85 x8_3 x9_3).f1), (rd_T85 x8_3 x9_3).f2⟩ : S85)) (k85_mkM _ _ _ (⟨(rd_T85 x8_3 x9_3).f0, rd l1 ((rd_T85 x8_3 x9_3).f1), (rd_T85 x8_3 x9_3).f2⟩ : S85) ) (fun _ hk => hk); have hx41_1 := hcc41 1 _ rfl; (try simp only [show (k85).sz = 3 from rfl, Nat.mul_one, Nat.add_zero] at hx41_1); have hf41_1 := hfr41 1; (try simp only [show (k85).sz = 3 from rfl, Nat.mul_one, Nat.add_zero] at hf41_1); clear hcl41 hcc41 hfr41 hM41) | ((with_reducible refine gate_store (t := 3) (p := 63) rfl ?_); refine store_event (t := 3) (p := 63) (v := ?vo_w42) (w1 := (w40.setCell ⟨go38, (x9_3 : Int).toNat * 3 + 1, none⟩ (.int .i64 (rd l1 ((rd_T85 x8_3 x9_3).f1))))) ?hg ?ho ?hn ?hr ?_; (case ho => rfl); (case hg => rfl); (case hn => rfl); (case hr => first | (go_simp; done) | (go_simp; rfl)); intro w42 hw; have hg : w40.grownBy w42 (some go38) := (by rw [hw]; exact HP41.2); have hp_ : Kd.R k85 85 w42 w.heap.size (fun _ => True) (.slice (some ⟨go38, 0, none⟩) x8_3.length co39) y1160 := (by rw [hw, Ny1160.out]; exact HP41.1); clear HP41; have n0_ := am_ (hp_); have n1_ := am_ (Kd.S_after (v := (.slice (some ⟨go38, 0, none⟩) x8_3.length co39)) (v1 := (.slice (some ⟨go38, 0, none⟩) x8_3.length co39)) (ok := (fun _ => True)) (su (Kd.S_mono HO_1146000.out (fun _ hk => ⟨trivial, hk⟩))) hg (.inl rfl)); have n2_ := am_ (blk_grown (bu BK1141.out) hg (Kd.R_ne HO_8.out BK1141.out (by decide))); have n3_ := am_ (blk_grown (bu BK1142.out) hg (Kd.R_ne HO_8.out BK1142.out (by decide))); have n4_ := am_ (blk_grown (bu BK1145.out) hg (Kd.R_ne HO_8.out BK1145.out (by decide))); have n5_ := am_ (by rw [hw]; exact below_set (HB.out) GB38.out : Below w.heap.size w w42); clear HO_8 HO_1146000 BK1141 BK1142 BK1145 HB; have HO_8 := n0_; have HO_1146000 := n1_; have BK1141 := n2_; have BK1142 := n3_; have BK1145 := n4_; have HB := n5_; clear n0_ n1_ n2_ n3_ n4_ n5_; clear hg hw hp_))
                go_roundg k3
                case measure => have := HJ2.out; have := HK2.out; have := HK3.out; omega
                case rel => exact ⟨(y1160), (wrap64 (x9_3 + 1)), z58_1, H', ⟨by have := HJ2.out; have := HK2.out; have := HK3.out; omega⟩, ⟨ru HO_8.out⟩, ⟨su (Kd.S_mono HO_1146000.out (fun _ hk => hk.2))⟩, ⟨bu BK1141.out⟩, ⟨bu BK1142.out⟩, ⟨bu BK1145.out⟩, ⟨z58_8⟩⟩
               ·rw [if_neg c37] at H
                exact absurd H (by simp)
              ·rw [if_neg c36] at H
               exact absurd H (by simp)
             ·replace c35 := Bool.eq_false_iff.mpr c35
              subst c35
              have H1 : ((spec_l1Writes.f ((rd_T85 x8_3 x9_3).f0) ((rd_T85 x8_3 x9_3).f1) ((rd_T85 x8_3 x9_3).f2)).bind fun t1162 => (if t1162 = true then (if 0 ≤ ((rd_T85 x8_3 x9_3).f1) then (if ((rd_T85 x8_3 x9_3).f1) < (l1.length : Int) then (spec_TurnPlaces.l1 k3 l1 x7_2 (x8_3.set (x9_3 : Int).toNat (⟨(rd_T85 x8_3 x9_3).f0, rd l1 ((rd_T85 x8_3 x9_3).f1), (rd_T85 x8_3 x9_3).f2⟩ : S85)) (wrap64 (x9_3 + 1)) l0_0 x1146000_2) else (none)) else (none)) else (spec_TurnPlaces.l1 k3 l1 x7_2 x8_3 (wrap64 (x9_3 + 1)) l0_0 x1146000_2))) = some (r1, r2) := by rw [if_neg (show ¬ (false = true) by decide)] at H; exact H
              clear H
              have H := H1
              clear H1
              replace H := Option.bind_eq_some_iff.mp H
              obtain ⟨t1162, A430, H⟩ := H
              replace H : (if t1162 = true then (if 0 ≤ ((rd_T85 x8_3 x9_3).f1) then (if ((rd_T85 x8_3 x9_3).f1) < (l1.length : Int) then (spec_TurnPlaces.l1 k3 l1 x7_2 (x8_3.set (x9_3 : Int).toNat (⟨(rd_T85 x8_3 x9_3).f0, rd l1 ((rd_T85 x8_3 x9_3).f1), (rd_T85 x8_3 x9_3).f2⟩ : S85)) (wrap64 (x9_3 + 1)) l0_0 x1146000_2) else (none)) else (none)) else (spec_TurnPlaces.l1 k3 l1 x7_2 x8_3 (wrap64 (x9_3 + 1)) l0_0 x1146000_2)) = some (r1, r2) := H
              have A43 := am_ A430
              clear A430
              by_cases c44 : t1162 = true
              ·subst c44
               have H1 : (if 0 ≤ ((rd_T85 x8_3 x9_3).f1) then (if ((rd_T85 x8_3 x9_3).f1) < (l1.length : Int) then (spec_TurnPlaces.l1 k3 l1 x7_2 (x8_3.set (x9_3 : Int).toNat (⟨(rd_T85 x8_3 x9_3).f0, rd l1 ((rd_T85 x8_3 x9_3).f1), (rd_T85 x8_3 x9_3).f2⟩ : S85)) (wrap64 (x9_3 + 1)) l0_0 x1146000_2) else (none)) else (none)) = some (r1, r2) := by rw [if_pos rfl] at H; exact H
               clear H
               have H := H1
               clear H1
               by_cases c45 : 0 ≤ ((rd_T85 x8_3 x9_3).f1)
               ·rw [if_pos c45] at H
                have c45b0 : decide (0 ≤ ((rd_T85 x8_3 x9_3).f1)) = true := decide_eq_true c45
                clear c45
                by_cases c46 : ((rd_T85 x8_3 x9_3).f1) < (l1.length : Int)
                ·rw [if_pos c46] at H
                 have c46b0 : decide (((rd_T85 x8_3 x9_3).f1) < (l1.length : Int)) = true := decide_eq_true c46
                 clear c46
                 obtain ⟨y1165, hy1165⟩ : ∃ y_ : List (S85), y_ = (x8_3.set (x9_3 : Int).toNat (⟨(rd_T85 x8_3 x9_3).f0, rd l1 ((rd_T85 x8_3 x9_3).f1), (rd_T85 x8_3 x9_3).f2⟩ : S85)) := ⟨_, rfl⟩
                 replace H : (spec_TurnPlaces.l1 k3 l1 x7_2 y1165 (wrap64 (x9_3 + 1)) l0_0 x1146000_2) = some (r1, r2) := by first | (rw [hy1165]; with_reducible exact H) | (have H2_ := (Option.bind_some _ _).symm.trans H; rw [hy1165]; with_reducible exact H2_) | (have H2_ := (Option.bind_some _ _).symm.trans H; with_reducible exact H2_) | with_reducible exact H | (rw [hy1165]; exact H) | exact H
                 have Ny1165 := am_ hy1165
                 clear hy1165
                 have H' := am_ H
                 clear H
                 obtain ⟨Ao48, co48, eo48⟩ := Kd.R_slice HO_8.out
                 subst eo48
                 have p1156 : 0 ≤ (x9_3 : Int) := of_decide_eq_true z58_2
                 have q1156 : x9_3 < (x8_3.length : Int) := of_decide_eq_true z58_2
                 obtain ⟨ad1156, e1156, hx1156_0, hx1156_1, hx1156_2⟩ := at_T85 (Kd.R_reads' HO_8.out).2.2 x9_3 p1156 q1156
                 cases e1156
                 replace p1156 := eq_true p1156
                 replace q1156 := eq_true q1156
                 go_wp2_with (first | ((with_reducible refine gate_callee (f := 87) rfl ?_); refine goesL_ (some 44) rfl rfl Try.func87 (by kernel_rfl) rfl #[.agg #[.int .i64 ((rd_T85 x8_3 x9_3).f0), .int .i64 ((rd_T85 x8_3 x9_3).f1), .int .i64 ((rd_T85 x8_3 x9_3).f2)]] rfl (by (try simp only [List.map_toArray, List.map_cons, List.map_nil]); first | done | rfl | (simp only [List.length_drop, List.length_take]; rfl)) ?_; (with_reducible refine (spec_l1Reads.calls ((rd_T85 x8_3 x9_3).f0) ((rd_T85 x8_3 x9_3).f1) ((rd_T85 x8_3 x9_3).f2) false _ A34.out).mono ?_); rintro e w49 ⟨rfl, hb⟩; refine ⟨_, rfl, ?_⟩; have n0_ := am_ (Kd.R_below (ru HO_8.out) hb); have n1_ := am_ (Kd.S_below (su HO_1146000.out) hb); have n2_ := am_ (blk_below (bu BK1141.out) hb); have n3_ := am_ (blk_below (bu BK1142.out) hb); have n4_ := am_ (blk_below (bu BK1145.out) hb); have n5_ := am_ (below_step z58_8 hb); clear HO_8 HO_1146000 BK1141 BK1142 BK1145 HB; have HO_8 := n0_; have HO_1146000 := n1_; have BK1141 := n2_; have BK1142 := n3_; have BK1145 := n4_; have HB := n5_; clear n0_ n1_ n2_ n3_ n4_ n5_; (try clear hb); (try clear hb2); (try clear hk); (try clear hi); have p1161 : 0 ≤ (x9_3 : Int) := of_decide_eq_true z58_2; have q1161 : x9_3 < (x8_3.length : Int) := of_decide_eq_true z58_2; obtain ⟨ad1161, e1161, hx1161_0, hx1161_1, hx1161_2⟩ := at_T85 (Kd.R_reads' HO_8.out).2.2 x9_3 p1161 q1161; obtain rfl : ad1156 = ad1161 := (by injection e1161); replace p1161 := eq_true p1161; replace q1161 := eq_true q1161) | (go_at_call 88; (with_reducible refine (spec_l1Writes.calls ((rd_T85 x8_3 x9_3).f0) ((rd_T85 x8_3 x9_3).f1) ((rd_T85 x8_3 x9_3).f2) true _ A43.out).mono ?_); rintro e w50 ⟨rfl, hb⟩; have n0_ := am_ (Kd.R_below (ru HO_8.out) hb); have n1_ := am_ (Kd.S_below (su HO_1146000.out) hb); have n2_ := am_ (blk_below (bu BK1141.out) hb); have n3_ := am_ (blk_below (bu BK1142.out) hb); have n4_ := am_ (blk_below (bu BK1145.out) hb); have n5_ := am_ (below_step z58_8 hb); clear HO_8 HO_1146000 BK1141 BK1142 BK1145 HB; have HO_8 := n0_; have HO_1146000 := n1_; have BK1141 := n2_; have BK1142 := n3_; have BK1145 := n4_; have HB := n5_; clear n0_ n1_ n2_ n3_ n4_ n5_; (try clear hb); (try clear hb2); (try clear hk); (try clear hi); have p1163 : 0 ≤ (x9_3 : Int) := of_decide_eq_true z58_2; have q1163 : x9_3 < (x8_3.length : Int) := of_decide_eq_true z58_2; obtain ⟨ad1163, e1163, hx1163_0, hx1163_1, hx1163_2⟩ := at_T85 (Kd.R_reads' HO_8.out).2.2 x9_3 p1163 q1163; obtain rfl : ad1156 = ad1163 := (by injection e1163); replace p1163 := eq_true p1163; replace q1163 := eq_true q1163; have p1164 : 0 ≤ (((rd_T85 x8_3 x9_3).f1) : Int) := of_decide_eq_true z58_2; have q1164 : ((rd_T85 x8_3 x9_3).f1) < (l1.length : Int) := of_decide_eq_true z58_2; obtain ⟨ad1164, e1164, hx1164_0⟩ := Kd.at_int HR1.out ((rd_T85 x8_3 x9_3).f1) p1164 q1164; cases e1164; replace hx1164_0 := (HB.out.cell (World.block_lt_of_cell? w _ hx1164_0)).trans hx1164_0; replace p1164 := eq_true p1164; replace q1164 := eq_true q1164; have p47 : 0 ≤ (x9_3 : Int) := of_decide_eq_true z58_2; have q47 : (x9_3 : Int) < ((x8_3.length : Int) : Int) := of_decide_eq_true z58_2; obtain ⟨go47, co47, eo47, gb47, gl47, cl47, HG47⟩ := Kd.R_form HO_8.out (by omega); (first | cases eo47 | (injection eo47 with ea_ en_ ec_; (first | subst ea_ | (injection ea_ with ea_; subst ea_)); subst ec_; clear en_)); have GB47 := am_ gb47; have GG47 := am_ HG47; clear gb47 gl47 HG47; (first | simp only [add_plain] at hx1156_0 | skip); (first | simp only [add_plain] at hx1156_1 | skip); (first | simp only [add_plain] at hx1156_2 | skip); (first | simp only [add_plain] at hx1161_0 | skip); (first | simp only [add_plain] at hx1161_1 | skip); (first | simp only [add_plain] at hx1161_2 | skip); (first | simp only [add_plain] at hx1163_0 | skip); (first | simp only [add_plain] at hx1163_1 | skip); (first | simp only [add_plain] at hx1163_2 | skip); obtain ⟨ce47, hcl47, hM47, hcc47, hfr47⟩ := Kd.R_elem HO_8.out z85 (x9_3 : Int) p47 q47; obtain rfl := k85_openM hM47; have hx47_0 : w50.cell? ⟨go47, (x9_3 : Int).toNat * 3, none⟩ = some (.int .i64 ((rd_T85 x8_3 x9_3).f0)) := hcc47 0 _ rfl; have hx47_1 : w50.cell? ⟨go47, (x9_3 : Int).toNat * 3 + 1, none⟩ = some (.int .i64 ((rd_T85 x8_3 x9_3).f1)) := hcc47 1 _ rfl; have hx47_2 : w50.cell? ⟨go47, (x9_3 : Int).toNat * 3 + 2, none⟩ = some (.int .i64 ((rd_T85 x8_3 x9_3).f2)) := hcc47 2 _ rfl; have hf47_0 : w50.frozen? ⟨go47, (x9_3 : Int).toNat * 3, none⟩ = false := hfr47 0; have hf47_1 : w50.frozen? ⟨go47, (x9_3 : Int).toNat * 3 + 1, none⟩ = false := hfr47 1; have hf47_2 : w50.frozen? ⟨go47, (x9_3 : Int).toNat * 3 + 2, none⟩ = false := hfr47 2; clear hcl47 hcc47 hfr47 hM47; replace p47 := eq_true p47; replace q47 := eq_true q47; have HX51 := am_ (show Kd.R k85 85 w50 w.heap.size (fun _ => True) (.slice (some ⟨go47, 0, none⟩) x8_3.length co48) x8_3 from (ru HO_8.out)); obtain ⟨ce51, hcl51, hM51, hcc51, hfr51⟩ := Kd.R_elem HX51.out z85 (x9_3 : Int) (of_decide_eq_true z58_2) (by have h_ : (x9_3 : Int) < ((x8_3.length : Int) : Int) := of_decide_eq_true z58_2; first | exact h_ | (have e_ := (Kd.R_reads' HO_8.out).1; omega) | simpa using h_); obtain rfl := k85_openM hM51; have HP51 := Kd.R_seg HX51.out (x9_3 : Int) (of_decide_eq_true z58_2) (by have h_ : (x9_3 : Int) < ((x8_3.length : Int) : Int) := of_decide_eq_true z58_2; first | exact h_ | (have e_ := (Kd.R_reads' HO_8.out).1; omega) | simpa using h_) (seg := [.int .i64 (rd l1 ((rd_T85 x8_3 x9_3).f1))]) (j := 1) hcl51 hcc51 (show 2 ≤ 3 from by decide) (x' := (⟨(rd_T85 x8_3 x9_3).f0, rd l1 ((rd_T85 x8_3 x9_3).f1), (rd_T85 x8_3 x9_3).f2⟩ : S85)) (k85_mkM _ _ _ (⟨(rd_T85 x8_3 x9_3).f0, rd l1 ((rd_T85 x8_3 x9_3).f1), (rd_T85 x8_3 x9_3).f2⟩ : S85) ) (fun _ hk => hk); have hx51_1 := hcc51 1 _ rfl; (try simp only [show (k85).sz = 3 from rfl, Nat.mul_one, Nat.add_zero] at hx51_1); have hf51_1 := hfr51 1; (try simp only [show (k85).sz = 3 from rfl, Nat.mul_one, Nat.add_zero] at hf51_1); clear hcl51 hcc51 hfr51 hM51) | ((with_reducible refine gate_store (t := 3) (p := 63) rfl ?_); refine store_event (t := 3) (p := 63) (v := ?vo_w52) (w1 := (w50.setCell ⟨go47, (x9_3 : Int).toNat * 3 + 1, none⟩ (.int .i64 (rd l1 ((rd_T85 x8_3 x9_3).f1))))) ?hg ?ho ?hn ?hr ?_; (case ho => rfl); (case hg => rfl); (case hn => rfl); (case hr => first | (go_simp; done) | (go_simp; rfl)); intro w52 hw; have hg : w50.grownBy w52 (some go47) := (by rw [hw]; exact HP51.2); have hp_ : Kd.R k85 85 w52 w.heap.size (fun _ => True) (.slice (some ⟨go47, 0, none⟩) x8_3.length co48) y1165 := (by rw [hw, Ny1165.out]; exact HP51.1); clear HP51; have n0_ := am_ (hp_); have n1_ := am_ (Kd.S_after (v := (.slice (some ⟨go47, 0, none⟩) x8_3.length co48)) (v1 := (.slice (some ⟨go47, 0, none⟩) x8_3.length co48)) (ok := (fun _ => True)) (su (Kd.S_mono HO_1146000.out (fun _ hk => ⟨trivial, hk⟩))) hg (.inl rfl)); have n2_ := am_ (blk_grown (bu BK1141.out) hg (Kd.R_ne HO_8.out BK1141.out (by decide))); have n3_ := am_ (blk_grown (bu BK1142.out) hg (Kd.R_ne HO_8.out BK1142.out (by decide))); have n4_ := am_ (blk_grown (bu BK1145.out) hg (Kd.R_ne HO_8.out BK1145.out (by decide))); have n5_ := am_ (by rw [hw]; exact below_set (HB.out) GB47.out : Below w.heap.size w w52); clear HO_8 HO_1146000 BK1141 BK1142 BK1145 HB; have HO_8 := n0_; have HO_1146000 := n1_; have BK1141 := n2_; have BK1142 := n3_; have BK1145 := n4_; have HB := n5_; clear n0_ n1_ n2_ n3_ n4_ n5_; clear hg hw hp_))
                 go_roundg k3
                 case measure => have := HJ2.out; have := HK2.out; have := HK3.out; omega
                 case rel => exact ⟨(y1165), (wrap64 (x9_3 + 1)), z58_1, H', ⟨by have := HJ2.out; have := HK2.out; have := HK3.out; omega⟩, ⟨ru HO_8.out⟩, ⟨su (Kd.S_mono HO_1146000.out (fun _ hk => hk.2))⟩, ⟨bu BK1141.out⟩, ⟨bu BK1142.out⟩, ⟨bu BK1145.out⟩, ⟨z58_8⟩⟩
                ·rw [if_neg c46] at H
                 exact absurd H (by simp)
               ·rw [if_neg c45] at H
                exact absurd H (by simp)
              ·replace c44 := Bool.eq_false_iff.mpr c44
               subst c44
               have H1 : (spec_TurnPlaces.l1 k3 l1 x7_2 x8_3 (wrap64 (x9_3 + 1)) l0_0 x1146000_2) = some (r1, r2) := by rw [if_neg (show ¬ (false = true) by decide)] at H; exact H
               clear H
               have H := H1
               clear H1
               have H' := am_ H
               clear H
               obtain ⟨Ao53, co53, eo53⟩ := Kd.R_slice HO_8.out
               subst eo53
               have p1156 : 0 ≤ (x9_3 : Int) := of_decide_eq_true z58_2
               have q1156 : x9_3 < (x8_3.length : Int) := of_decide_eq_true z58_2
               obtain ⟨ad1156, e1156, hx1156_0, hx1156_1, hx1156_2⟩ := at_T85 (Kd.R_reads' HO_8.out).2.2 x9_3 p1156 q1156
               cases e1156
               replace p1156 := eq_true p1156
               replace q1156 := eq_true q1156
               go_wp2_with (first | ((with_reducible refine gate_callee (f := 87) rfl ?_); refine goesL_ (some 44) rfl rfl Try.func87 (by kernel_rfl) rfl #[.agg #[.int .i64 ((rd_T85 x8_3 x9_3).f0), .int .i64 ((rd_T85 x8_3 x9_3).f1), .int .i64 ((rd_T85 x8_3 x9_3).f2)]] rfl (by (try simp only [List.map_toArray, List.map_cons, List.map_nil]); first | done | rfl | (simp only [List.length_drop, List.length_take]; rfl)) ?_; (with_reducible refine (spec_l1Reads.calls ((rd_T85 x8_3 x9_3).f0) ((rd_T85 x8_3 x9_3).f1) ((rd_T85 x8_3 x9_3).f2) false _ A34.out).mono ?_); rintro e w54 ⟨rfl, hb⟩; refine ⟨_, rfl, ?_⟩; have n0_ := am_ (Kd.R_below (ru HO_8.out) hb); have n1_ := am_ (Kd.S_below (su HO_1146000.out) hb); have n2_ := am_ (blk_below (bu BK1141.out) hb); have n3_ := am_ (blk_below (bu BK1142.out) hb); have n4_ := am_ (blk_below (bu BK1145.out) hb); have n5_ := am_ (below_step z58_8 hb); clear HO_8 HO_1146000 BK1141 BK1142 BK1145 HB; have HO_8 := n0_; have HO_1146000 := n1_; have BK1141 := n2_; have BK1142 := n3_; have BK1145 := n4_; have HB := n5_; clear n0_ n1_ n2_ n3_ n4_ n5_; (try clear hb); (try clear hb2); (try clear hk); (try clear hi); have p1161 : 0 ≤ (x9_3 : Int) := of_decide_eq_true z58_2; have q1161 : x9_3 < (x8_3.length : Int) := of_decide_eq_true z58_2; obtain ⟨ad1161, e1161, hx1161_0, hx1161_1, hx1161_2⟩ := at_T85 (Kd.R_reads' HO_8.out).2.2 x9_3 p1161 q1161; obtain rfl : ad1156 = ad1161 := (by injection e1161); replace p1161 := eq_true p1161; replace q1161 := eq_true q1161) | (go_at_call 88; (with_reducible refine (spec_l1Writes.calls ((rd_T85 x8_3 x9_3).f0) ((rd_T85 x8_3 x9_3).f1) ((rd_T85 x8_3 x9_3).f2) false _ A43.out).mono ?_); rintro e w55 ⟨rfl, hb⟩; have n0_ := am_ (Kd.R_below (ru HO_8.out) hb); have n1_ := am_ (Kd.S_below (su HO_1146000.out) hb); have n2_ := am_ (blk_below (bu BK1141.out) hb); have n3_ := am_ (blk_below (bu BK1142.out) hb); have n4_ := am_ (blk_below (bu BK1145.out) hb); have n5_ := am_ (below_step z58_8 hb); clear HO_8 HO_1146000 BK1141 BK1142 BK1145 HB; have HO_8 := n0_; have HO_1146000 := n1_; have BK1141 := n2_; have BK1142 := n3_; have BK1145 := n4_; have HB := n5_; clear n0_ n1_ n2_ n3_ n4_ n5_; (try clear hb); (try clear hb2); (try clear hk); (try clear hi)))
               go_roundg k3
               case measure => have := HJ2.out; have := HK2.out; have := HK3.out; omega
               case rel => exact ⟨(x8_3), (wrap64 (x9_3 + 1)), z58_1, H', ⟨by have := HJ2.out; have := HK2.out; have := HK3.out; omega⟩, ⟨ru HO_8.out⟩, ⟨su HO_1146000.out⟩, ⟨bu BK1141.out⟩, ⟨bu BK1142.out⟩, ⟨bu BK1145.out⟩, ⟨z58_8⟩⟩
            ·rw [if_neg c33] at H
             exact absurd H (by simp)
           ·rw [if_neg c32] at H
            have c32b0 : decide (x9_3 < (x8_3.length : Int)) = false := decide_eq_false c32
            clear c32
            by_cases c56 : x1146000_2.length < 5864062014805
            ·rw [if_pos c56] at H
             have LMc56 := am_ c56
             clear c56
             obtain ⟨y1153, hy1153⟩ : ∃ y_ : List (List (S85)), y_ = (x1146000_2 ++ [x8_3]) := ⟨_, rfl⟩
             replace H : (spec_TurnPlaces.l0 k3 l1 (wrap64 (x7_2 + 1)) l0_0 y1153) = some (r1, r2) := by first | (rw [hy1153]; with_reducible exact H) | (have H2_ := (Option.bind_some _ _).symm.trans H; rw [hy1153]; with_reducible exact H2_) | (have H2_ := (Option.bind_some _ _).symm.trans H; with_reducible exact H2_) | with_reducible exact H | (rw [hy1153]; exact H) | exact H
             have Ny1153 := am_ hy1153
             clear hy1153
             have H' := am_ H
             clear H
             obtain ⟨Ao57, co57, eo57⟩ := Kd.R_slice HO_8.out
             subst eo57
             have hnb58 := NB1145_1141.out
             have hnc58 := NB1141_1145.out
             have hnb59 := NB1145_1142.out
             have hnc59 := NB1142_1145.out
             have hcz60_0 : wr.cell? ⟨gb1145, 0, none⟩ = some (u1146000) := (blk_cell BK1145.out 0).trans rfl
             have hfz60_0 := blk_frozen BK1145.out 0
             go_wp2_with (first | ((with_reducible refine gate_builtin (b := .append) (xs := #[.tmp 65, .tmp 67]) rfl ?_); at_builtin; refine Kd.S_append (Kd.slice 85 k85) (w0 := w) w.heap.size rfl (.tmp 65) (.tmp 67) 33 82 (.slice none 0 0) 24 rfl Try.underlying33 info82 rfl (by decide) (by omega) u1146000 x1146000_2 x8_3 [.slice Ao57 x8_3.length co57] (fun _ => True) (fun k_ => some k_ = (.slice Ao57 x8_3.length co57 : Value).ownBlock) rfl rfl ?aP (fun k_ hk_ => ((Kd.R_mono (ok' := fun k_ => ((fun _ => True)) k_ ∧ some k_ ≠ (u1146000 : Value).ownBlock) (Kd.R_apart' (HO_8.out) (Kd.S_typed HO_1146000.out) (by decide)) (fun k_ hk => ⟨trivial, hk.2⟩))).1 k_ hk_.symm) ?aF ?aO ?aB ?aS ?aL ?_; (case aP => exact Kd.M_row (Kd.R_mono (Kd.R_tight rfl (Kd.R_mono (ok' := fun k_ => ((fun _ => True)) k_ ∧ some k_ ≠ (u1146000 : Value).ownBlock) (Kd.R_apart' (HO_8.out) (Kd.S_typed HO_1146000.out) (by decide)) (fun k_ hk => ⟨trivial, hk.2⟩))) (fun _ h_ => h_))); (case aB => exact z58_8); (case aF => exact (fun _ _ => trivial)); (case aO => exact (su (Kd.S_mono HO_1146000.out (fun k_ hk => ⟨trivial, fun e_ => hk e_⟩)))); (case aS => exact (below_size z58_8)); (case aL => have := LMc56.out; omega); intro v1154 w61 ho hb hg hat; rw [← Ny1153.out] at ho; have n0_ := am_ (blk_grown (bu BK1141.out) hg (Kd.S_ne HO_1146000.out BK1141.out (by decide))); have n1_ := am_ (blk_grown (bu BK1142.out) hg (Kd.S_ne HO_1146000.out BK1142.out (by decide))); have n2_ := am_ (blk_grown (bu BK1145.out) hg (Kd.S_ne HO_1146000.out BK1145.out (by decide))); have n3_ := am_ (hb); have n4_ := am_ (ho); clear BK1141 BK1142 BK1145 HB HO_1146000 HO_8; have BK1141 := n0_; have BK1142 := n1_; have BK1145 := n2_; have HB := n3_; have HO1155 := n4_; clear n0_ n1_ n2_ n3_ n4_; clear ho hb hg hat; obtain ⟨Ao62, co62, eo62⟩ := Kd.S_slice HO1155.out; subst eo62; have hcz63_0 : w61.cell? ⟨gb1145, 0, none⟩ = some (u1146000) := (blk_cell BK1145.out 0).trans rfl; have hfz63_0 := blk_frozen BK1145.out 0))
             go_roundg k3
             case measure => have := HJ2.out; have := HK2.out; have := HK3.out; omega
             case rel => exact ⟨(wrap64 (x7_2 + 1)), (y1153), (.slice Ao62 y1153.length co62), z58_1, H', ⟨by have := HJ2.out; have := HK2.out; have := HK3.out; omega⟩, ⟨su (Kd.S_mono (Kd.S_far (p := ⟨gb1145, 0, none⟩) (Kd.S_types HO1155.out BK1145.out (by decide)) (fun _ hk => hk.2) (.slice Ao62 y1153.length co62)) (fun _ hk => trivial))⟩, ⟨z58_9⟩, ⟨z58_10⟩, ⟨by (with_reducible repeat (first | refine blk_drewN ?_ _ | refine blk_drew ?_ | refine blk_alloc ?_ _)); refine blk_put (cs := #[u1146000]) ?_ 0 _ rfl; (with_reducible repeat (first | refine blk_drewN ?_ _ | refine blk_drew ?_ | refine blk_alloc ?_ _)); exact BK1145.out⟩, ⟨z58_8⟩⟩
            ·rw [if_neg c56] at H
             exact absurd H (by simp)
        ·rw [if_neg c24] at H
         exact absurd H (by simp)
       ·rw [if_neg c23] at H
        exact absurd H (by simp)
      ·rw [if_neg c22] at H
       have c22b0 : decide (x7_2 < (l0_0.length : Int)) = false := decide_eq_false c22
       clear c22
       simp only [Option.some.injEq, Prod.mk.injEq] at H
       obtain ⟨rfl, rfl⟩ := H
       have hnb64 := NB1141_1142.out
       have hnc64 := NB1142_1141.out
       have hnb65 := NB1141_1145.out
       have hnc65 := NB1145_1141.out
       have hcz66_0 : wr.cell? ⟨gb1141, 0, none⟩ = some (.slice A0_0 l0_0.length c0_0) := (blk_cell BK1141.out 0).trans rfl
       have hfz66_0 := blk_frozen BK1141.out 0
       have hnb67 := NB1145_1142.out
       have hnc67 := NB1142_1145.out
       have hcz68_0 : wr.cell? ⟨gb1145, 0, none⟩ = some (u1146000) := (blk_cell BK1145.out 0).trans rfl
       have hfz68_0 := blk_frozen BK1145.out 0
       obtain ⟨Ao69, co69, eo69⟩ := Kd.S_slice HO_1146000.out
       subst eo69
       have hcz70_0 : wr.cell? ⟨gb1142, 0, none⟩ = some (.slice none 0 0) := (blk_cell BK1142.out 0).trans rfl
       have hfz70_0 := blk_frozen BK1142.out 0
       go_wp2
       refine bodyPost_ret (results_ct rfl _ _ gb1142 35 #[.slice Ao69 x1146000_2.length co69] (0, 0) _ rfl z58_11 Try.underlying35 rfl (by kernel_rfl)) rfl ?_
       exact ⟨_, z58_3, su (Kd.S_mono (Kd.S_far (p := ⟨gb1142, 0, none⟩) (Kd.S_types HO_1146000.out BK1142.out (by decide)) (fun _ hk => hk.2) (.slice Ao69 x1146000_2.length co69)) (fun _ hk => trivial)), z58_8⟩

end Go.Proofs.Ytefkbmhkhpekjaa.PB

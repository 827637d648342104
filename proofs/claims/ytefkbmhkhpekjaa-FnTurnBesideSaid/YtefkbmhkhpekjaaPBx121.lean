-- Written by this session's wip/myprint.py (the kit's print.py, with hand-written chunks). Lean checks it.
import Derived.Test.YtefkbmhkhpekjaaPBx0
import Derived.Test.YtefkbmhkhpekjaaPBx70
import Derived.Test.YtefkbmhkhpekjaaPBx71
import Derived.Test.YtefkbmhkhpekjaaPBx87
import Derived.Test.YtefkbmhkhpekjaaPBx88
namespace Go.Proofs.Ytefkbmhkhpekjaa.PB
open Go.RowKit Go.Proofs.YtefkbmhkhpekjaaW.PrintWords Go.Proofs.YtefkbmhkhpekjaaW.PrintLast Go.Proofs.YtefkbmhkhpekjaaW.PrintMore
attribute [local go_sem] max2_int min2_int max_two min_two max_three min_three max_four min_four   -- for this text's walks alone
open Go.Proofs.YtefkbmhkhpekjaaMine
set_option linter.unusedVariables false
set_option linter.unusedSimpArgs false

theorem z121_1 {p : Prop} (h : p := by first | rfl | (simp [errW_none, errW_some] <;> rfl) | (simp [*, errW_none, errW_some] <;> rfl)) : p := h
theorem z121_2 {p : Prop} (h : p := by repeat (first | (with_reducible first | exact HK.out | apply KeepBut.set_ | apply keep_drewN | apply keep_drew | apply keep_alloc) | exact HK.out)) : p := h
theorem z121_3 {p : Prop} (h : p := by repeat (first | (with_reducible first | exact HK.out | apply KeepBut.set_ | apply keep_drewN | apply keep_drew | apply keep_alloc | refine keep_far ?_ GW525.out _) | exact HK.out)) : p := h
theorem z121_4 {p : Prop} (h : p := by repeat (first | (with_reducible first | exact HI0.out | apply IsS116.alloc | apply IsS116.drewN | apply IsS116.drew | apply IsS116.set_1 | refine IsS116.far ?_ NB0_525.out _) | exact HI0.out)) : p := h
theorem z121_5 {p : Prop} (h : p := by repeat (first | (with_reducible first | exact HB.out | apply below_alloc | apply pw_below_drewN | apply below_drew1 | refine below_set ?_ (IsS116.ge HI0.out) | refine below_set ?_ GE525.out) | exact HB.out)) : p := h
theorem z121_6 {p : Prop} (h : p := by repeat (first | (with_reducible first | exact HK.out | apply KeepBut.set_ | apply keep_drewN | apply keep_drew | apply keep_alloc | refine keep_far ?_ GW525.out _ | refine keep_far ?_ GW532.out _) | exact HK.out)) : p := h
theorem z121_7 {p : Prop} (h : p := by repeat (first | (with_reducible first | exact HI0.out | apply IsS116.alloc | apply IsS116.drewN | apply IsS116.drew | apply IsS116.set_1 | refine IsS116.far ?_ NB0_525.out _ | refine IsS116.far ?_ NB0_532.out _) | exact HI0.out)) : p := h
theorem z121_8 {p : Prop} (h : p := by repeat (first | (with_reducible first | exact HB.out | apply below_alloc | apply pw_below_drewN | apply below_drew1 | refine below_set ?_ (IsS116.ge HI0.out) | refine below_set ?_ GE525.out | refine below_set ?_ GE532.out) | exact HB.out)) : p := h
theorem z121_9 {p : Prop} (h : p := by (with_reducible repeat (first | refine blk_drewN ?_ _ | refine blk_drew ?_ | refine blk_alloc ?_ _)); refine blk_far ?_ NB525_532.out _; (with_reducible repeat (first | refine blk_drewN ?_ _ | refine blk_drew ?_ | refine blk_alloc ?_ _)); exact BK525.out) : p := h
theorem z121_10 {p : Prop} (h : p := by (with_reducible repeat (first | refine blk_drewN ?_ _ | refine blk_drew ?_ | refine blk_alloc ?_ _)); refine blk_put (cs := #[.int .i64 (rd y526 t529), .int .i64 0, .int .i64 0]) ?_ 1 _ rfl; (with_reducible repeat (first | refine blk_drewN ?_ _ | refine blk_drew ?_ | refine blk_alloc ?_ _)); exact BK532.out) : p := h
theorem z121_11 {p : Prop} (h : p := by (with_reducible repeat (first | refine blk_drewN ?_ _ | refine blk_drew ?_ | refine blk_alloc ?_ _)); refine blk_put (cs := #[.int .i64 (rd y526 t529), .int .i64 0, .int .i64 0]) ?_ 2 _ rfl; (with_reducible repeat (first | refine blk_drewN ?_ _ | refine blk_drew ?_ | refine blk_alloc ?_ _)); refine blk_put (cs := #[.int .i64 (rd y526 t529), .int .i64 0, .int .i64 0]) ?_ 1 _ rfl; (with_reducible repeat (first | refine blk_drewN ?_ _ | refine blk_drew ?_ | refine blk_alloc ?_ _)); refine blk_put (cs := #[.int .i64 0, .int .i64 0, .int .i64 0]) ?_ 0 _ rfl; (with_reducible repeat (first | refine blk_drewN ?_ _ | refine blk_drew ?_ | refine blk_alloc ?_ _)); exact BK532.out) : p := h
theorem z121_12 {p : Prop} (h : p := by (with_reducible repeat (first | refine blk_drewN ?_ _ | refine blk_drew ?_ | refine blk_alloc ?_ _)); refine blk_far ?_ NB525_532.out _; (with_reducible repeat (first | refine blk_drewN ?_ _ | refine blk_drew ?_ | refine blk_alloc ?_ _)); refine blk_far ?_ NB525_532.out _; (with_reducible repeat (first | refine blk_drewN ?_ _ | refine blk_drew ?_ | refine blk_alloc ?_ _)); refine blk_far ?_ NB525_532.out _; (with_reducible repeat (first | refine blk_drewN ?_ _ | refine blk_drew ?_ | refine blk_alloc ?_ _)); exact BK525.out) : p := h
theorem z121_13 {p : Prop} (h : p := by (with_reducible repeat (first | refine blk_drewN ?_ _ | refine blk_drew ?_ | refine blk_alloc ?_ _)); refine blk_put (cs := #[.int .i64 (rd y526 t529), .int .i64 0, .int .i64 0]) ?_ 2 _ rfl; (with_reducible repeat (first | refine blk_drewN ?_ _ | refine blk_drew ?_ | refine blk_alloc ?_ _)); refine blk_put (cs := #[.int .i64 (rd y526 t529), .int .i64 0, .int .i64 0]) ?_ 1 _ rfl; (with_reducible repeat (first | refine blk_drewN ?_ _ | refine blk_drew ?_ | refine blk_alloc ?_ _)); refine blk_put (cs := #[.int .i64 0, .int .i64 0, .int .i64 0]) ?_ 0 _ rfl; (with_reducible repeat (first | refine blk_drewN ?_ _ | refine blk_drew ?_ | refine blk_alloc ?_ _)); refine blk_far ?_ NB525_532.out _; (with_reducible repeat (first | refine blk_drewN ?_ _ | refine blk_drew ?_ | refine blk_alloc ?_ _)); exact BK525.out) : p := h
theorem z121_14 {p : Prop} (h : p := by (with_reducible repeat (first | refine blk_drewN ?_ _ | refine blk_drew ?_ | refine blk_alloc ?_ _)); refine blk_put (cs := #[.int .i64 (rd y526 t529), .int .i64 t535, .int .i64 0]) ?_ 2 _ rfl; (with_reducible repeat (first | refine blk_drewN ?_ _ | refine blk_drew ?_ | refine blk_alloc ?_ _)); refine blk_put (cs := #[.int .i64 (rd y526 t529), .int .i64 0, .int .i64 0]) ?_ 1 _ rfl; (with_reducible repeat (first | refine blk_drewN ?_ _ | refine blk_drew ?_ | refine blk_alloc ?_ _)); refine blk_put (cs := #[.int .i64 0, .int .i64 0, .int .i64 0]) ?_ 0 _ rfl; (with_reducible repeat (first | refine blk_drewN ?_ _ | refine blk_drew ?_ | refine blk_alloc ?_ _)); refine blk_far ?_ NB525_532.out _; (with_reducible repeat (first | refine blk_drewN ?_ _ | refine blk_drew ?_ | refine blk_alloc ?_ _)); exact BK525.out) : p := h
/-! ### spec_l71Do: function 121 -/
def spec_l71Do.j0 : Nat → Int → Bool → List Int → Int → Int → Int → Int → Option (Int × Int × Int × Int)
  | 0, _, _, _, _, _, _, _ => none
  | k + 1, x1, x17, x1000, x1001, x533000, x533001, x533002 => if x17 = true then ((spec_l6Rd_pick.f k x1000 x1001 x1).bind fun bt535 => (if x533000 = 1 then ((spec_l6Rd_pick.f k x1000 bt535.2 3).bind fun bt537 => (some (x533000, bt535.1, wrap64 (1 + bt537.1), bt537.2))) else (if x533000 = 6 then ((spec_l6Rd_pick.f k x1000 bt535.2 3).bind fun bt539 => (some (x533000, bt535.1, wrap64 (1 + bt539.1), bt539.2))) else (some (x533000, bt535.1, x533002, bt535.2))))) else (if x533000 = 1 then ((spec_l6Rd_pick.f k x1000 x1001 3).bind fun bt541 => (some (x533000, x533001, wrap64 (1 + bt541.1), bt541.2))) else (if x533000 = 6 then ((spec_l6Rd_pick.f k x1000 x1001 3).bind fun bt543 => (some (x533000, x533001, wrap64 (1 + bt543.1), bt543.2))) else (some (x533000, x533001, x533002, x1001))))
def spec_l71Do.f (k : Nat) (s0_0 : List Int) (s0_1 : Int) (a1 : Int) : Option (Int × Int × Int × Int) := (some (([1, 1, 1, 2, 2, 2, 3, 4, 5, 6] : List Int) : List Int)).bind fun y526 => ((spec_l6Rd_pick.f k s0_0 s0_1 10).bind fun bt529 => (if 0 ≤ bt529.1 then (if bt529.1 < (y526.length : Int) then ((spec_l1Reads.f (rd y526 bt529.1) 0 0).bind fun t533 => (if t533 = true then (spec_l71Do.j0 k a1 true s0_0 bt529.2 (rd y526 bt529.1) 0 0) else ((spec_l1Writes.f (rd y526 bt529.1) 0 0).bind fun t534 => (spec_l71Do.j0 k a1 t534 s0_0 bt529.2 (rd y526 bt529.1) 0 0)))) else (none)) else (none)))
theorem spec_l71Do.mono_l : ∀ k, (∀ y0 y1 y2 y3 y4 y5 y6, LeO (spec_l71Do.j0 k y0 y1 y2 y3 y4 y5 y6) (spec_l71Do.j0 (k + 1) y0 y1 y2 y3 y4 y5 y6))
  | 0 => fun _ _ _ _ _ _ _ r h => by simp [spec_l71Do.j0] at h
  | k + 1 => by
    have ih0 := spec_l71Do.mono_l k
    · intro y0 y1 y2 y3 y4 y5 y6
      unfold spec_l71Do.j0
      repeat' first
      | (with_reducible exact ih0 _ _ _ _ _ _ _)
      | (with_reducible exact spec_l6Rd_pick.mono _ _ _ _)
      | (with_reducible exact LeO.refl _)
      | (with_reducible exact LeO.none _)
      | (with_reducible refine LeO.ite ?_ ?_)
      | (with_reducible refine LeO.bind ?_ (fun _ => ?_))
      | exact ih0 _ _ _ _ _ _ _
      | exact spec_l6Rd_pick.mono _ _ _ _
      | exact LeO.none _
      | refine LeO.ite ?_ ?_
      | refine LeO.bind ?_ (fun _ => ?_)
theorem spec_l71Do.mono : ∀ a0 a1 a2 k, LeO (spec_l71Do.f k a0 a1 a2) (spec_l71Do.f (k + 1) a0 a1 a2) := by
  intro a0 a1 a2 k
  have ih0 := spec_l71Do.mono_l k
  unfold spec_l71Do.f
  repeat' first
      | (with_reducible exact ih0 _ _ _ _ _ _ _)
      | (with_reducible exact spec_l6Rd_pick.mono _ _ _ _)
      | (with_reducible exact LeO.refl _)
      | (with_reducible exact LeO.none _)
      | (with_reducible refine LeO.ite ?_ ?_)
      | (with_reducible refine LeO.bind ?_ (fun _ => ?_))
      | exact ih0 _ _ _ _ _ _ _
      | exact spec_l6Rd_pick.mono _ _ _ _
      | exact LeO.none _
      | refine LeO.ite ?_ ?_
      | refine LeO.bind ?_ (fun _ => ?_)
set_option maxHeartbeats 8000000 in
set_option maxRecDepth 100000 in
theorem spec_l71Do.calls (k : Nat) (g : Nat) (s0_0 : List Int) (s0_1 : Int) (a1 : Int) (r1 : Int) (r2 : Int) (r3 : Int) (r4 : Int) (w0 w : World) (hI : IsS116 w0 w g s0_0 s0_1) (hB : Below w0.heap.size w0 w) (h : spec_l71Do.f k s0_0 s0_1 a1 = some (r1, r2, r3, r4)) :
  Calls Try.prog 121 #[.pointer (some ⟨g, 0, none⟩), .int .i64 a1] w fun e w' => e = .returned (.agg #[.int .i64 r1, .int .i64 r2, .int .i64 r3]) ∧ IsS116 w0 w' g s0_0 r4 ∧ Below w0.heap.size w0 w' ∧ KeepBut w w' g none := by
 have hu85 := Try.underlying85
 have HI0 := am_ hI
 have HK := am_ (KeepBut.refl w g none)
 have HL := am_ hB.size
 clear hI
 have HW0 := am_ hB.size
 have HB := am_ hB
 clear hB
 have H : ((some (([1, 1, 1, 2, 2, 2, 3, 4, 5, 6] : List Int) : List Int)).bind fun y526 => ((spec_l6Rd_pick.f k s0_0 s0_1 10).bind fun bt529 => (if 0 ≤ bt529.1 then (if bt529.1 < (y526.length : Int) then ((spec_l1Reads.f (rd y526 bt529.1) 0 0).bind fun t533 => (if t533 = true then (spec_l71Do.j0 k a1 true s0_0 bt529.2 (rd y526 bt529.1) 0 0) else ((spec_l1Writes.f (rd y526 bt529.1) 0 0).bind fun t534 => (spec_l71Do.j0 k a1 t534 s0_0 bt529.2 (rd y526 bt529.1) 0 0)))) else (none)) else (none)))) = some (r1, r2, r3, r4) := h
 clear h
 obtain ⟨y526, hy526⟩ : ∃ y_ : List Int, y_ = (([1, 1, 1, 2, 2, 2, 3, 4, 5, 6] : List Int)) := ⟨_, rfl⟩
 replace H : ((spec_l6Rd_pick.f k s0_0 s0_1 10).bind fun bt529 => (if 0 ≤ bt529.1 then (if bt529.1 < (y526.length : Int) then ((spec_l1Reads.f (rd y526 bt529.1) 0 0).bind fun t533 => (if t533 = true then (spec_l71Do.j0 k a1 true s0_0 bt529.2 (rd y526 bt529.1) 0 0) else ((spec_l1Writes.f (rd y526 bt529.1) 0 0).bind fun t534 => (spec_l71Do.j0 k a1 t534 s0_0 bt529.2 (rd y526 bt529.1) 0 0)))) else (none)) else (none))) = some (r1, r2, r3, r4) := by first | (rw [hy526]; with_reducible exact H) | (have H2_ := (Option.bind_some _ _).symm.trans H; rw [hy526]; with_reducible exact H2_) | (have H2_ := (Option.bind_some _ _).symm.trans H; with_reducible exact H2_) | with_reducible exact H | (rw [hy526]; exact H) | exact H
 have Ny526 := am_ hy526
 clear hy526
 replace H := Option.bind_eq_some_iff.mp H
 obtain ⟨⟨t529, t530⟩, A30, H⟩ := H
 replace H : (if 0 ≤ t529 then (if t529 < (y526.length : Int) then ((spec_l1Reads.f (rd y526 t529) 0 0).bind fun t533 => (if t533 = true then (spec_l71Do.j0 k a1 true s0_0 t530 (rd y526 t529) 0 0) else ((spec_l1Writes.f (rd y526 t529) 0 0).bind fun t534 => (spec_l71Do.j0 k a1 t534 s0_0 t530 (rd y526 t529) 0 0)))) else (none)) else (none)) = some (r1, r2, r3, r4) := H
 have A3 := am_ A30
 clear A30
 by_cases c4 : 0 ≤ t529
 ·rw [if_pos c4] at H
  have c4b0 : decide (0 ≤ t529) = true := decide_eq_true c4
  clear c4
  by_cases c5 : t529 < (y526.length : Int)
  ·rw [if_pos c5] at H
   have c5b0 : decide (t529 < (y526.length : Int)) = true := decide_eq_true c5
   clear c5
   have HC6 := am_ H
   clear H
   go_enter Try.func121, Try.ntmps121
   go_upto_region 2 with (first | ((with_reducible refine gate_dst (N := 4) rfl ?_); refine box_event ?hg (N := 4) ?hd (cs := #[.int .i64 0, .int .i64 0, .int .i64 0]) (t := 85) ?hr ?_; (case hd => rfl); (case hg => rfl); (case hr => first | (go_simp; done) | (go_simp; rfl)); intro gb525 hg w7 hbox hb; have n0_ := am_ (IsS116.below (by repeat (first | (with_reducible first | exact HI0.out | apply IsS116.alloc | apply IsS116.drewN | apply IsS116.drew | apply IsS116.set_1) | exact HI0.out)) hb); have n1_ := am_ (KeepBut.trans z121_2 (KeepBut.of_below hb g none) (.inl rfl)); have n2_ := am_ (below_step (by repeat (first | (with_reducible first | exact HB.out | apply below_alloc | apply pw_below_drewN | apply below_drew1 | refine below_set ?_ (IsS116.ge HI0.out)) | exact HB.out)) hb); have n3_ := am_ (hbox); have n4_ := am_ (by rw [hg]; exact (keep_size (w := w) (g := g) (row := none) z121_2) : w.heap.size ≤ gb525); have n5_ := am_ (Nat.le_trans HW0.out (by rw [hg]; exact (keep_size (w := w) (g := g) (row := none) z121_2) : w.heap.size ≤ gb525) : w0.heap.size ≤ gb525); have n6_ := am_ (by rw [hg]; exact Nat.ne_of_lt (IsS116.lt (show IsS116 w0 _ g s0_0 s0_1 from by repeat (first | (with_reducible first | exact HI0.out | apply IsS116.alloc | apply IsS116.drewN | apply IsS116.drew | apply IsS116.set_1) | exact HI0.out))) : g ≠ gb525); have n7_ := am_ (by rw [hg]; exact Nat.ne_of_gt (IsS116.lt (show IsS116 w0 _ g s0_0 s0_1 from by repeat (first | (with_reducible first | exact HI0.out | apply IsS116.alloc | apply IsS116.drewN | apply IsS116.drew | apply IsS116.set_1) | exact HI0.out))) : gb525 ≠ g); clear HI0 HK HB; have HI0 := n0_; have HK := n1_; have HB := n2_; have BK525 := n3_; have GW525 := n4_; have GE525 := n5_; have NB0_525 := n6_; have NB525_0 := n7_; clear n0_ n1_ n2_ n3_ n4_ n5_ n6_ n7_; clear hb hbox hg) | ((with_reducible refine gate_dst (N := 6) rfl ?_); refine Kd.R_lit (Kd.int .i64) _ 3 ?hg (N := 6) ?hd (xs := ([1, 1, 1, 2, 2, 2, 3, 4, 5, 6] : List Int)) (inner := [.int .i64 1, .int .i64 1, .int .i64 1, .int .i64 2, .int .i64 2, .int .i64 2, .int .i64 3, .int .i64 4, .int .i64 5, .int .i64 6]) (ok := fun _ => True) (okp := fun _ => True) ?hr ?hp (fun _ hk => hk) trivial (Below.refl _ _) (Nat.le_refl _) (by simp) ?_; (case hd => rfl); (case hg => rfl); (case hr => first | (go_simp; done) | (go_simp; rfl)); (case hp => exact (Reps.one (show Kd.M (Kd.int .i64) _ _ _ 1 [.int .i64 1] from rfl) (Reps.one (show Kd.M (Kd.int .i64) _ _ _ 1 [.int .i64 1] from rfl) (Reps.one (show Kd.M (Kd.int .i64) _ _ _ 1 [.int .i64 1] from rfl) (Reps.one (show Kd.M (Kd.int .i64) _ _ _ 2 [.int .i64 2] from rfl) (Reps.one (show Kd.M (Kd.int .i64) _ _ _ 2 [.int .i64 2] from rfl) (Reps.one (show Kd.M (Kd.int .i64) _ _ _ 2 [.int .i64 2] from rfl) (Reps.one (show Kd.M (Kd.int .i64) _ _ _ 3 [.int .i64 3] from rfl) (Reps.one (show Kd.M (Kd.int .i64) _ _ _ 4 [.int .i64 4] from rfl) (Reps.one (show Kd.M (Kd.int .i64) _ _ _ 5 [.int .i64 5] from rfl) (Reps.one (show Kd.M (Kd.int .i64) _ _ _ 6 [.int .i64 6] from rfl) (Reps.none _ _)))))))))))); intro v527 w8 ho9 hb hg_ hnew_; clear hg_ hnew_; (first | rw [← Ny526.out] at ho9 | (simp only [Int.reduceToNat] at ho9; rw [← Ny526.out] at ho9)); have n0_ := am_ (Kd.R_lower ho9 (keep_size (w := w) (g := g) (row := none) z121_3)); have n1_ := am_ (IsS116.below z121_4 hb); have n2_ := am_ (blk_below (bu BK525.out) hb); have n3_ := am_ (KeepBut.trans z121_3 (KeepBut.of_below hb g none) (.inl rfl)); have n4_ := am_ (below_step z121_5 hb); clear HI0 BK525 HK HB; have HO528 := n0_; have HI0 := n1_; have BK525 := n2_; have HK := n3_; have HB := n4_; clear n0_ n1_ n2_ n3_ n4_; clear hb ho9) | ((with_reducible refine gate_callee (f := 71) rfl ?_); refine goesL_ (some 8) rfl rfl Try.func71 (by kernel_rfl) rfl #[.pointer (some ⟨g, 0, none⟩), .int .i64 10] rfl (by (try simp only [List.map_toArray, List.map_cons, List.map_nil]); first | done | rfl | (simp only [List.length_drop, List.length_take]; rfl)) ?_; (with_reducible refine (spec_l6Rd_pick.calls k g s0_0 s0_1 10 t529 t530 w0 _ ?side1 ?side2 A3.out).mono ?_); (case side1 => repeat (first | (with_reducible first | exact HI0.out | apply IsS116.alloc | apply IsS116.drewN | apply IsS116.drew | apply IsS116.set_1 | refine IsS116.far ?_ NB0_525.out _) | exact HI0.out)); (case side2 => repeat (first | (with_reducible first | exact HB.out | apply below_alloc | apply pw_below_drewN | apply below_drew1 | refine below_set ?_ (IsS116.ge HI0.out) | refine below_set ?_ GE525.out) | exact HB.out)); rintro e w10 ⟨rfl, hi, hb, hk⟩; refine ⟨_, rfl, ?_⟩; have n0_ := am_ (KeepBut.blk hk (bu BK525.out) NB525_0.out (by simp)); have n1_ := am_ (Kd.R_mono (Kd.R_keep (IsS116.apart (show IsS116 w0 _ g s0_0 s0_1 from by repeat (first | (with_reducible first | exact HI0.out | apply IsS116.alloc | apply IsS116.drewN | apply IsS116.drew | apply IsS116.set_1 | refine IsS116.far ?_ NB0_525.out _) | exact HI0.out)) (ru HO528.out) (by decide)) hk (fun _ h => h.2)) (fun _ h => h.1)); have n2_ := am_ (KeepBut.trans z121_3 hk (.inl rfl)); have n3_ := am_ (hb); have n4_ := am_ (hi); clear BK525 HO528 HK HB HI0; have BK525 := n0_; have HO528 := n1_; have HK := n2_; have HB := n3_; have HI0 := n4_; clear n0_ n1_ n2_ n3_ n4_; (try clear hb); (try clear hb2); (try clear hk); (try clear hi); obtain ⟨Ao11, co11, eo11⟩ := Kd.R_slice HO528.out; subst eo11; have p531 : 0 ≤ (t529 : Int) := of_decide_eq_true (by first | (with_reducible assumption) | assumption); have q531 : t529 < (y526.length : Int) := of_decide_eq_true (by first | (with_reducible assumption) | assumption); obtain ⟨ad531, e531, hx531_0⟩ := Kd.at_int (Kd.R_reads' HO528.out).2.2 t529 p531 q531; cases e531; replace p531 := eq_true p531; replace q531 := eq_true q531) | ((with_reducible refine gate_dst (N := 5) rfl ?_); refine box_event ?hg (N := 5) ?hd (cs := #[.int .i64 0, .int .i64 0, .int .i64 0]) (t := 85) ?hr ?_; (case hd => rfl); (case hg => rfl); (case hr => first | (go_simp; done) | (go_simp; rfl)); intro gb532 hg w12 hbox hb; have n0_ := am_ (Kd.R_below (ru HO528.out) hb); have n1_ := am_ (IsS116.below z121_4 hb); have n2_ := am_ (blk_below (bu BK525.out) hb); have n3_ := am_ (KeepBut.trans z121_3 (KeepBut.of_below hb g none) (.inl rfl)); have n4_ := am_ (below_step z121_5 hb); have n5_ := am_ (hbox); have n6_ := am_ (by rw [hg]; exact (keep_size (w := w) (g := g) (row := none) z121_3) : w.heap.size ≤ gb532); have n7_ := am_ (Nat.le_trans HW0.out (by rw [hg]; exact (keep_size (w := w) (g := g) (row := none) z121_3) : w.heap.size ≤ gb532) : w0.heap.size ≤ gb532); have n8_ := am_ (by rw [hg]; exact Nat.ne_of_lt (blk_lt (bu BK525.out)) : gb525 ≠ gb532); have n9_ := am_ (by rw [hg]; exact Nat.ne_of_gt (blk_lt (bu BK525.out)) : gb532 ≠ gb525); have n10_ := am_ (by rw [hg]; exact Nat.ne_of_lt (IsS116.lt (show IsS116 w0 _ g s0_0 t530 from by repeat (first | (with_reducible first | exact HI0.out | apply IsS116.alloc | apply IsS116.drewN | apply IsS116.drew | apply IsS116.set_1 | refine IsS116.far ?_ NB0_525.out _) | exact HI0.out))) : g ≠ gb532); have n11_ := am_ (by rw [hg]; exact Nat.ne_of_gt (IsS116.lt (show IsS116 w0 _ g s0_0 t530 from by repeat (first | (with_reducible first | exact HI0.out | apply IsS116.alloc | apply IsS116.drewN | apply IsS116.drew | apply IsS116.set_1 | refine IsS116.far ?_ NB0_525.out _) | exact HI0.out))) : gb532 ≠ g); clear HO528 HI0 BK525 HK HB; have HO528 := n0_; have HI0 := n1_; have BK525 := n2_; have HK := n3_; have HB := n4_; have BK532 := n5_; have GW532 := n6_; have GE532 := n7_; have NB525_532 := n8_; have NB532_525 := n9_; have NB0_532 := n10_; have NB532_0 := n11_; clear n0_ n1_ n2_ n3_ n4_ n5_ n6_ n7_ n8_ n9_ n10_ n11_; clear hb hbox hg; have hnb13 := NB532_525.out; have hnc13 := NB525_532.out; have hnb14 := NB532_0.out; have hnc14 := NB0_532.out; have hcz15_0 : w12.cell? ⟨gb532, 0, none⟩ = some (.int .i64 0) := (blk_cell BK532.out 0).trans rfl; have hcz15_1 : w12.cell? ⟨gb532, 1, none⟩ = some (.int .i64 0) := (blk_cell BK532.out 1).trans rfl; have hcz15_2 : w12.cell? ⟨gb532, 2, none⟩ = some (.int .i64 0) := (blk_cell BK532.out 2).trans rfl; have hfz15_0 := blk_frozen BK532.out 0; have hfz15_1 := blk_frozen BK532.out 1; have hfz15_2 := blk_frozen BK532.out 2))
   (try simp only [Act.put, List.setIfInBounds_toArray, List.set_cons_zero, List.set_cons_succ])
   go_cut [17] (fun v17 wc => ∃ (kq : Nat) (x17_5 : Bool), v17 = .bool x17_5 ∧ Aside0 (spec_l71Do.j0 kq a1 x17_5 s0_0 t530 (rd y526 t529) 0 0 = some (r1, r2, r3, r4)) ∧ Aside0 (kq ≤ k) ∧ Aside0 (wc.heap[gb525]? = some (.cells #[.int .i64 0, .int .i64 0, .int .i64 0] 85 (0, 0))) ∧ Aside0 (wc.heap[gb532]? = some (.cells #[.int .i64 (rd y526 t529), .int .i64 0, .int .i64 0] 85 (0, 0))) ∧ Aside0 (IsS116 w0 wc g s0_0 t530) ∧ Aside0 (KeepBut w wc g none) ∧ Aside0 (Below w0.heap.size w0 wc))
   case first =>
    have H := HC6.out
    clear HC6
    replace H := Option.bind_eq_some_iff.mp H
    obtain ⟨t533, A160, H⟩ := H
    replace H : (if t533 = true then (spec_l71Do.j0 k a1 true s0_0 t530 (rd y526 t529) 0 0) else ((spec_l1Writes.f (rd y526 t529) 0 0).bind fun t534 => (spec_l71Do.j0 k a1 t534 s0_0 t530 (rd y526 t529) 0 0))) = some (r1, r2, r3, r4) := H
    have A16 := am_ A160
    clear A160
    by_cases c17 : t533 = true
    ·subst c17
     have H1 : (spec_l71Do.j0 k a1 true s0_0 t530 (rd y526 t529) 0 0) = some (r1, r2, r3, r4) := by rw [if_pos rfl] at H; exact H
     clear H
     have H := H1
     clear H1
     have H' := am_ H
     clear H
     have hnb18 := NB532_525.out
     have hnc18 := NB525_532.out
     have hnb19 := NB532_0.out
     have hnc19 := NB0_532.out
     have hcz20_0 : w12.cell? ⟨gb532, 0, none⟩ = some (.int .i64 0) := (blk_cell BK532.out 0).trans rfl
     have hcz20_1 : w12.cell? ⟨gb532, 1, none⟩ = some (.int .i64 0) := (blk_cell BK532.out 1).trans rfl
     have hcz20_2 : w12.cell? ⟨gb532, 2, none⟩ = some (.int .i64 0) := (blk_cell BK532.out 2).trans rfl
     have hfz20_0 := blk_frozen BK532.out 0
     have hfz20_1 := blk_frozen BK532.out 1
     have hfz20_2 := blk_frozen BK532.out 2
     go_wp2_with (first | ((with_reducible refine gate_callee (f := 87) rfl ?_); refine goesL_ (some 13) rfl rfl Try.func87 (by kernel_rfl) rfl #[.agg #[.int .i64 (rd y526 t529), .int .i64 0, .int .i64 0]] rfl (by (try simp only [List.map_toArray, List.map_cons, List.map_nil]); first | done | rfl | (simp only [List.length_drop, List.length_take]; rfl)) ?_; (with_reducible refine (spec_l1Reads.calls (rd y526 t529) 0 0 true _ A16.out).mono ?_); rintro e w21 ⟨rfl, hb⟩; refine ⟨_, rfl, ?_⟩; have n0_ := am_ (Kd.R_below (ru (Kd.R_mono (Kd.R_far (p := ⟨gb532, 2, none⟩) (Kd.R_far (p := ⟨gb532, 1, none⟩) (Kd.R_far (p := ⟨gb532, 0, none⟩) (Kd.R_types HO528.out BK532.out (by decide)) (fun _ hk => hk.2) (.int .i64 (rd y526 t529))) (fun _ hk => hk.2) (.int .i64 0)) (fun _ hk => hk.2) (.int .i64 0)) (fun _ h_ => h_.1))) hb); have n1_ := am_ (IsS116.below (show IsS116 w0 (((w12.setCell ⟨gb532, 0, none⟩ (.int .i64 (rd y526 t529))).setCell ⟨gb532, 1, none⟩ (.int .i64 0)).setCell ⟨gb532, 2, none⟩ (.int .i64 0)) g s0_0 t530 from by repeat (first | (with_reducible first | exact HI0.out | apply IsS116.alloc | apply IsS116.drewN | apply IsS116.drew | apply IsS116.set_1 | refine IsS116.far ?_ NB0_525.out _ | refine IsS116.far ?_ NB0_532.out _) | exact HI0.out)) hb); have n2_ := am_ (blk_below (g := gb525) (o := .cells #[.int .i64 0, .int .i64 0, .int .i64 0] 85 (0, 0)) z121_12 hb); have n3_ := am_ (blk_below (g := gb532) (o := .cells #[.int .i64 (rd y526 t529), .int .i64 0, .int .i64 0] 85 (0, 0)) z121_11 hb); have n4_ := am_ (KeepBut.trans z121_6 (KeepBut.of_below hb g none) (.inl rfl)); have n5_ := am_ (below_step z121_8 hb); clear HO528 HI0 BK525 BK532 HK HB; have HO528 := n0_; have HI0 := n1_; have BK525 := n2_; have BK532 := n3_; have HK := n4_; have HB := n5_; clear n0_ n1_ n2_ n3_ n4_ n5_; (try clear hb); (try clear hb2); (try clear hk); (try clear hi)))
     go_meet
     case rel => exact ⟨_, (true), (by first | rfl | (simp; done) | (simp [*]; done)), H', ⟨by first | omega | exact Nat.le_refl _⟩, ⟨bu BK525.out⟩, ⟨bu BK532.out⟩, ⟨z121_7⟩, ⟨z121_6⟩, ⟨z121_8⟩⟩
    ·replace c17 := Bool.eq_false_iff.mpr c17
     subst c17
     have H1 : ((spec_l1Writes.f (rd y526 t529) 0 0).bind fun t534 => (spec_l71Do.j0 k a1 t534 s0_0 t530 (rd y526 t529) 0 0)) = some (r1, r2, r3, r4) := by rw [if_neg (show ¬ (false = true) by decide)] at H; exact H
     clear H
     have H := H1
     clear H1
     replace H := Option.bind_eq_some_iff.mp H
     obtain ⟨t534, A220, H⟩ := H
     replace H : (spec_l71Do.j0 k a1 t534 s0_0 t530 (rd y526 t529) 0 0) = some (r1, r2, r3, r4) := H
     have A22 := am_ A220
     clear A220
     have H' := am_ H
     clear H
     have hnb23 := NB532_525.out
     have hnc23 := NB525_532.out
     have hnb24 := NB532_0.out
     have hnc24 := NB0_532.out
     have hcz25_0 : w12.cell? ⟨gb532, 0, none⟩ = some (.int .i64 0) := (blk_cell BK532.out 0).trans rfl
     have hcz25_1 : w12.cell? ⟨gb532, 1, none⟩ = some (.int .i64 0) := (blk_cell BK532.out 1).trans rfl
     have hcz25_2 : w12.cell? ⟨gb532, 2, none⟩ = some (.int .i64 0) := (blk_cell BK532.out 2).trans rfl
     have hfz25_0 := blk_frozen BK532.out 0
     have hfz25_1 := blk_frozen BK532.out 1
     have hfz25_2 := blk_frozen BK532.out 2
     go_wp2_with (first | ((with_reducible refine gate_callee (f := 87) rfl ?_); refine goesL_ (some 13) rfl rfl Try.func87 (by kernel_rfl) rfl #[.agg #[.int .i64 (rd y526 t529), .int .i64 0, .int .i64 0]] rfl (by (try simp only [List.map_toArray, List.map_cons, List.map_nil]); first | done | rfl | (simp only [List.length_drop, List.length_take]; rfl)) ?_; (with_reducible refine (spec_l1Reads.calls (rd y526 t529) 0 0 false _ A16.out).mono ?_); rintro e w26 ⟨rfl, hb⟩; refine ⟨_, rfl, ?_⟩; have n0_ := am_ (Kd.R_below (ru (Kd.R_mono (Kd.R_far (p := ⟨gb532, 2, none⟩) (Kd.R_far (p := ⟨gb532, 1, none⟩) (Kd.R_far (p := ⟨gb532, 0, none⟩) (Kd.R_types HO528.out BK532.out (by decide)) (fun _ hk => hk.2) (.int .i64 (rd y526 t529))) (fun _ hk => hk.2) (.int .i64 0)) (fun _ hk => hk.2) (.int .i64 0)) (fun _ h_ => h_.1))) hb); have n1_ := am_ (IsS116.below (show IsS116 w0 (((w12.setCell ⟨gb532, 0, none⟩ (.int .i64 (rd y526 t529))).setCell ⟨gb532, 1, none⟩ (.int .i64 0)).setCell ⟨gb532, 2, none⟩ (.int .i64 0)) g s0_0 t530 from by repeat (first | (with_reducible first | exact HI0.out | apply IsS116.alloc | apply IsS116.drewN | apply IsS116.drew | apply IsS116.set_1 | refine IsS116.far ?_ NB0_525.out _ | refine IsS116.far ?_ NB0_532.out _) | exact HI0.out)) hb); have n2_ := am_ (blk_below (g := gb525) (o := .cells #[.int .i64 0, .int .i64 0, .int .i64 0] 85 (0, 0)) z121_12 hb); have n3_ := am_ (blk_below (g := gb532) (o := .cells #[.int .i64 (rd y526 t529), .int .i64 0, .int .i64 0] 85 (0, 0)) z121_11 hb); have n4_ := am_ (KeepBut.trans z121_6 (KeepBut.of_below hb g none) (.inl rfl)); have n5_ := am_ (below_step z121_8 hb); clear HO528 HI0 BK525 BK532 HK HB; have HO528 := n0_; have HI0 := n1_; have BK525 := n2_; have BK532 := n3_; have HK := n4_; have HB := n5_; clear n0_ n1_ n2_ n3_ n4_ n5_; (try clear hb); (try clear hb2); (try clear hk); (try clear hi); have hcz27_0 : w26.cell? ⟨gb532, 0, none⟩ = some (.int .i64 (rd y526 t529)) := (blk_cell BK532.out 0).trans rfl; have hcz27_1 : w26.cell? ⟨gb532, 1, none⟩ = some (.int .i64 0) := (blk_cell BK532.out 1).trans rfl; have hcz27_2 : w26.cell? ⟨gb532, 2, none⟩ = some (.int .i64 0) := (blk_cell BK532.out 2).trans rfl; have hfz27_0 := blk_frozen BK532.out 0; have hfz27_1 := blk_frozen BK532.out 1; have hfz27_2 := blk_frozen BK532.out 2) | (go_at_call 88; (with_reducible refine (spec_l1Writes.calls (rd y526 t529) 0 0 t534 _ A22.out).mono ?_); rintro e w28 ⟨rfl, hb⟩; have n0_ := am_ (Kd.R_below (ru HO528.out) hb); have n1_ := am_ (IsS116.below z121_7 hb); have n2_ := am_ (blk_below (bu BK525.out) hb); have n3_ := am_ (blk_below (bu BK532.out) hb); have n4_ := am_ (KeepBut.trans z121_6 (KeepBut.of_below hb g none) (.inl rfl)); have n5_ := am_ (below_step z121_8 hb); clear HO528 HI0 BK525 BK532 HK HB; have HO528 := n0_; have HI0 := n1_; have BK525 := n2_; have BK532 := n3_; have HK := n4_; have HB := n5_; clear n0_ n1_ n2_ n3_ n4_ n5_; (try clear hb); (try clear hb2); (try clear hk); (try clear hi)))
     go_meet
     case rel => exact ⟨_, (t534), (by first | rfl | (simp; done) | (simp [*]; done)), H', ⟨by first | omega | exact Nat.le_refl _⟩, ⟨bu BK525.out⟩, ⟨bu BK532.out⟩, ⟨z121_7⟩, ⟨z121_6⟩, ⟨z121_8⟩⟩
   case rest =>
    clear HC6
    obtain ⟨kq, x17_5, rfl, HA, HJ5, BK525, BK532, HI0, HK, HB⟩ := hcut
    cases kq with
    | zero => exact absurd HA.out (by simp [spec_l71Do.j0])
    | succ kj5 =>
     have H := HA.out
     clear HA
     simp only [spec_l71Do.j0] at H
     by_cases c29 : x17_5 = true
     ·subst c29
      have H1 : ((spec_l6Rd_pick.f kj5 s0_0 t530 a1).bind fun bt535 => (if (rd y526 t529) = 1 then ((spec_l6Rd_pick.f kj5 s0_0 bt535.2 3).bind fun bt537 => (some ((rd y526 t529), bt535.1, wrap64 (1 + bt537.1), bt537.2))) else (if (rd y526 t529) = 6 then ((spec_l6Rd_pick.f kj5 s0_0 bt535.2 3).bind fun bt539 => (some ((rd y526 t529), bt535.1, wrap64 (1 + bt539.1), bt539.2))) else (some ((rd y526 t529), bt535.1, 0, bt535.2))))) = some (r1, r2, r3, r4) := by rw [if_pos rfl] at H; exact H
      clear H
      have H := H1
      clear H1
      replace H := Option.bind_eq_some_iff.mp H
      obtain ⟨⟨t535, t536⟩, A300, H⟩ := H
      replace H : (if (rd y526 t529) = 1 then ((spec_l6Rd_pick.f kj5 s0_0 t536 3).bind fun bt537 => (some ((rd y526 t529), t535, wrap64 (1 + bt537.1), bt537.2))) else (if (rd y526 t529) = 6 then ((spec_l6Rd_pick.f kj5 s0_0 t536 3).bind fun bt539 => (some ((rd y526 t529), t535, wrap64 (1 + bt539.1), bt539.2))) else (some ((rd y526 t529), t535, 0, t536)))) = some (r1, r2, r3, r4) := H
      have A30 := am_ A300
      clear A300
      by_cases c31 : (rd y526 t529) = 1
      ·rw [if_pos c31] at H
       have c31b0 : ((rd y526 t529) == 1) = true := beq_iff_eq.mpr c31
       have c31b1 : ((rd y526 t529) != 1) = false := bne_eq_false_iff_eq.mpr c31
       clear c31
       replace H := Option.bind_eq_some_iff.mp H
       obtain ⟨⟨t537, t538⟩, A320, H⟩ := H
       replace H : (some ((rd y526 t529), t535, wrap64 (1 + t537), t538)) = some (r1, r2, r3, r4) := H
       have A32 := am_ A320
       clear A320
       simp only [Option.some.injEq, Prod.mk.injEq] at H
       obtain ⟨rfl, rfl, rfl, rfl⟩ := H
       go_wp2_with (first | ((with_reducible refine gate_callee (f := 71) rfl ?_); refine goesL_ (some 20) rfl rfl Try.func71 (by kernel_rfl) rfl #[.pointer (some ⟨g, 0, none⟩), .int .i64 a1] rfl (by (try simp only [List.map_toArray, List.map_cons, List.map_nil]); first | done | rfl | (simp only [List.length_drop, List.length_take]; rfl)) ?_; (with_reducible refine (spec_l6Rd_pick.calls kj5 g s0_0 t530 a1 t535 t536 w0 _ ?side1 ?side2 A30.out).mono ?_); (case side1 => repeat (first | (with_reducible first | exact HI0.out | apply IsS116.alloc | apply IsS116.drewN | apply IsS116.drew | apply IsS116.set_1 | refine IsS116.far ?_ NB0_525.out _ | refine IsS116.far ?_ NB0_532.out _) | exact HI0.out)); (case side2 => repeat (first | (with_reducible first | exact HB.out | apply below_alloc | apply pw_below_drewN | apply below_drew1 | refine below_set ?_ (IsS116.ge HI0.out) | refine below_set ?_ GE525.out | refine below_set ?_ GE532.out) | exact HB.out)); rintro e w33 ⟨rfl, hi, hb, hk⟩; refine ⟨_, rfl, ?_⟩; have n0_ := am_ (KeepBut.blk hk (bu BK525.out) NB525_0.out (by simp)); have n1_ := am_ (KeepBut.blk hk (bu BK532.out) NB532_0.out (by simp)); have n2_ := am_ (KeepBut.trans z121_6 hk (.inl rfl)); have n3_ := am_ (hb); have n4_ := am_ (hi); clear BK525 BK532 HK HB HI0; have BK525 := n0_; have BK532 := n1_; have HK := n2_; have HB := n3_; have HI0 := n4_; clear n0_ n1_ n2_ n3_ n4_; (try clear hb); (try clear hb2); (try clear hk); (try clear hi); have hnb34 := NB532_525.out; have hnc34 := NB525_532.out; have hnb35 := NB532_0.out; have hnc35 := NB0_532.out; have hcz36_0 : w33.cell? ⟨gb532, 0, none⟩ = some (.int .i64 (rd y526 t529)) := (blk_cell BK532.out 0).trans rfl; have hcz36_1 : w33.cell? ⟨gb532, 1, none⟩ = some (.int .i64 0) := (blk_cell BK532.out 1).trans rfl; have hcz36_2 : w33.cell? ⟨gb532, 2, none⟩ = some (.int .i64 0) := (blk_cell BK532.out 2).trans rfl; have hfz36_0 := blk_frozen BK532.out 0; have hfz36_1 := blk_frozen BK532.out 1; have hfz36_2 := blk_frozen BK532.out 2) | ((with_reducible refine gate_callee (f := 71) rfl ?_); refine goesL_ (some 31) rfl rfl Try.func71 (by kernel_rfl) rfl #[.pointer (some ⟨g, 0, none⟩), .int .i64 3] rfl (by (try simp only [List.map_toArray, List.map_cons, List.map_nil]); first | done | rfl | (simp only [List.length_drop, List.length_take]; rfl)) ?_; (with_reducible refine (spec_l6Rd_pick.calls kj5 g s0_0 t536 3 t537 t538 w0 _ ?side1 ?side2 A32.out).mono ?_); (case side1 => repeat (first | (with_reducible first | exact HI0.out | apply IsS116.alloc | apply IsS116.drewN | apply IsS116.drew | apply IsS116.set_1 | refine IsS116.far ?_ NB0_525.out _ | refine IsS116.far ?_ NB0_532.out _) | exact HI0.out)); (case side2 => repeat (first | (with_reducible first | exact HB.out | apply below_alloc | apply pw_below_drewN | apply below_drew1 | refine below_set ?_ (IsS116.ge HI0.out) | refine below_set ?_ GE525.out | refine below_set ?_ GE532.out) | exact HB.out)); rintro e w37 ⟨rfl, hi, hb, hk⟩; refine ⟨_, rfl, ?_⟩; have n0_ := am_ (KeepBut.blk hk (g' := gb525) (o := .cells #[.int .i64 0, .int .i64 0, .int .i64 0] 85 (0, 0)) z121_9 NB525_0.out (by simp)); have n1_ := am_ (KeepBut.blk hk (g' := gb532) (o := .cells #[.int .i64 (rd y526 t529), .int .i64 t535, .int .i64 0] 85 (0, 0)) z121_10 NB532_0.out (by simp)); have n2_ := am_ (KeepBut.trans z121_6 hk (.inl rfl)); have n3_ := am_ (hb); have n4_ := am_ (hi); clear BK525 BK532 HK HB HI0; have BK525 := n0_; have BK532 := n1_; have HK := n2_; have HB := n3_; have HI0 := n4_; clear n0_ n1_ n2_ n3_ n4_; (try clear hb); (try clear hb2); (try clear hk); (try clear hi); have hcz38_0 : w37.cell? ⟨gb532, 0, none⟩ = some (.int .i64 (rd y526 t529)) := (blk_cell BK532.out 0).trans rfl; have hcz38_1 : w37.cell? ⟨gb532, 1, none⟩ = some (.int .i64 t535) := (blk_cell BK532.out 1).trans rfl; have hcz38_2 : w37.cell? ⟨gb532, 2, none⟩ = some (.int .i64 0) := (blk_cell BK532.out 2).trans rfl; have hfz38_0 := blk_frozen BK532.out 0; have hfz38_1 := blk_frozen BK532.out 1; have hfz38_2 := blk_frozen BK532.out 2; have hnb39 := NB525_0.out; have hnc39 := NB0_525.out; have hcz40_0 : w37.cell? ⟨gb525, 0, none⟩ = some (.int .i64 0) := (blk_cell BK525.out 0).trans rfl; have hcz40_1 : w37.cell? ⟨gb525, 1, none⟩ = some (.int .i64 0) := (blk_cell BK525.out 1).trans rfl; have hcz40_2 : w37.cell? ⟨gb525, 2, none⟩ = some (.int .i64 0) := (blk_cell BK525.out 2).trans rfl; have hfz40_0 := blk_frozen BK525.out 0; have hfz40_1 := blk_frozen BK525.out 1; have hfz40_2 := blk_frozen BK525.out 2))
       refine bodyPost_ret (results_cell_row rfl _ _ gb525 85 #[.int .i64 (rd y526 t529), .int .i64 t535, .int .i64 (wrap64 (1 + t537))] (0, 0) _ rfl z121_14 Try.underlying85 rfl (by kernel_rfl)) rfl ?_
       exact ⟨z121_1, z121_7, z121_8, z121_6⟩
      ·rw [if_neg c31] at H
       have c31b0 : ((rd y526 t529) == 1) = false := beq_eq_false_iff_ne.mpr c31
       have c31b1 : ((rd y526 t529) != 1) = true := bne_iff_ne.mpr c31
       by_cases c41 : (rd y526 t529) = 6
       ·rw [if_pos c41] at H
        have c41b0 : ((rd y526 t529) == 6) = true := beq_iff_eq.mpr c41
        have c41b1 : ((rd y526 t529) != 6) = false := bne_eq_false_iff_eq.mpr c41
        clear c41
        replace H := Option.bind_eq_some_iff.mp H
        obtain ⟨⟨t539, t540⟩, A420, H⟩ := H
        replace H : (some ((rd y526 t529), t535, wrap64 (1 + t539), t540)) = some (r1, r2, r3, r4) := H
        have A42 := am_ A420
        clear A420
        simp only [Option.some.injEq, Prod.mk.injEq] at H
        obtain ⟨rfl, rfl, rfl, rfl⟩ := H
        go_wp2_with (first | ((with_reducible refine gate_callee (f := 71) rfl ?_); refine goesL_ (some 20) rfl rfl Try.func71 (by kernel_rfl) rfl #[.pointer (some ⟨g, 0, none⟩), .int .i64 a1] rfl (by (try simp only [List.map_toArray, List.map_cons, List.map_nil]); first | done | rfl | (simp only [List.length_drop, List.length_take]; rfl)) ?_; (with_reducible refine (spec_l6Rd_pick.calls kj5 g s0_0 t530 a1 t535 t536 w0 _ ?side1 ?side2 A30.out).mono ?_); (case side1 => repeat (first | (with_reducible first | exact HI0.out | apply IsS116.alloc | apply IsS116.drewN | apply IsS116.drew | apply IsS116.set_1 | refine IsS116.far ?_ NB0_525.out _ | refine IsS116.far ?_ NB0_532.out _) | exact HI0.out)); (case side2 => repeat (first | (with_reducible first | exact HB.out | apply below_alloc | apply pw_below_drewN | apply below_drew1 | refine below_set ?_ (IsS116.ge HI0.out) | refine below_set ?_ GE525.out | refine below_set ?_ GE532.out) | exact HB.out)); rintro e w43 ⟨rfl, hi, hb, hk⟩; refine ⟨_, rfl, ?_⟩; have n0_ := am_ (KeepBut.blk hk (bu BK525.out) NB525_0.out (by simp)); have n1_ := am_ (KeepBut.blk hk (bu BK532.out) NB532_0.out (by simp)); have n2_ := am_ (KeepBut.trans z121_6 hk (.inl rfl)); have n3_ := am_ (hb); have n4_ := am_ (hi); clear BK525 BK532 HK HB HI0; have BK525 := n0_; have BK532 := n1_; have HK := n2_; have HB := n3_; have HI0 := n4_; clear n0_ n1_ n2_ n3_ n4_; (try clear hb); (try clear hb2); (try clear hk); (try clear hi); have hnb44 := NB532_525.out; have hnc44 := NB525_532.out; have hnb45 := NB532_0.out; have hnc45 := NB0_532.out; have hcz46_0 : w43.cell? ⟨gb532, 0, none⟩ = some (.int .i64 (rd y526 t529)) := (blk_cell BK532.out 0).trans rfl; have hcz46_1 : w43.cell? ⟨gb532, 1, none⟩ = some (.int .i64 0) := (blk_cell BK532.out 1).trans rfl; have hcz46_2 : w43.cell? ⟨gb532, 2, none⟩ = some (.int .i64 0) := (blk_cell BK532.out 2).trans rfl; have hfz46_0 := blk_frozen BK532.out 0; have hfz46_1 := blk_frozen BK532.out 1; have hfz46_2 := blk_frozen BK532.out 2) | ((with_reducible refine gate_callee (f := 71) rfl ?_); refine goesL_ (some 31) rfl rfl Try.func71 (by kernel_rfl) rfl #[.pointer (some ⟨g, 0, none⟩), .int .i64 3] rfl (by (try simp only [List.map_toArray, List.map_cons, List.map_nil]); first | done | rfl | (simp only [List.length_drop, List.length_take]; rfl)) ?_; (with_reducible refine (spec_l6Rd_pick.calls kj5 g s0_0 t536 3 t539 t540 w0 _ ?side1 ?side2 A42.out).mono ?_); (case side1 => repeat (first | (with_reducible first | exact HI0.out | apply IsS116.alloc | apply IsS116.drewN | apply IsS116.drew | apply IsS116.set_1 | refine IsS116.far ?_ NB0_525.out _ | refine IsS116.far ?_ NB0_532.out _) | exact HI0.out)); (case side2 => repeat (first | (with_reducible first | exact HB.out | apply below_alloc | apply pw_below_drewN | apply below_drew1 | refine below_set ?_ (IsS116.ge HI0.out) | refine below_set ?_ GE525.out | refine below_set ?_ GE532.out) | exact HB.out)); rintro e w47 ⟨rfl, hi, hb, hk⟩; refine ⟨_, rfl, ?_⟩; have n0_ := am_ (KeepBut.blk hk (g' := gb525) (o := .cells #[.int .i64 0, .int .i64 0, .int .i64 0] 85 (0, 0)) z121_9 NB525_0.out (by simp)); have n1_ := am_ (KeepBut.blk hk (g' := gb532) (o := .cells #[.int .i64 (rd y526 t529), .int .i64 t535, .int .i64 0] 85 (0, 0)) z121_10 NB532_0.out (by simp)); have n2_ := am_ (KeepBut.trans z121_6 hk (.inl rfl)); have n3_ := am_ (hb); have n4_ := am_ (hi); clear BK525 BK532 HK HB HI0; have BK525 := n0_; have BK532 := n1_; have HK := n2_; have HB := n3_; have HI0 := n4_; clear n0_ n1_ n2_ n3_ n4_; (try clear hb); (try clear hb2); (try clear hk); (try clear hi); have hcz48_0 : w47.cell? ⟨gb532, 0, none⟩ = some (.int .i64 (rd y526 t529)) := (blk_cell BK532.out 0).trans rfl; have hcz48_1 : w47.cell? ⟨gb532, 1, none⟩ = some (.int .i64 t535) := (blk_cell BK532.out 1).trans rfl; have hcz48_2 : w47.cell? ⟨gb532, 2, none⟩ = some (.int .i64 0) := (blk_cell BK532.out 2).trans rfl; have hfz48_0 := blk_frozen BK532.out 0; have hfz48_1 := blk_frozen BK532.out 1; have hfz48_2 := blk_frozen BK532.out 2; have hnb49 := NB525_0.out; have hnc49 := NB0_525.out; have hcz50_0 : w47.cell? ⟨gb525, 0, none⟩ = some (.int .i64 0) := (blk_cell BK525.out 0).trans rfl; have hcz50_1 : w47.cell? ⟨gb525, 1, none⟩ = some (.int .i64 0) := (blk_cell BK525.out 1).trans rfl; have hcz50_2 : w47.cell? ⟨gb525, 2, none⟩ = some (.int .i64 0) := (blk_cell BK525.out 2).trans rfl; have hfz50_0 := blk_frozen BK525.out 0; have hfz50_1 := blk_frozen BK525.out 1; have hfz50_2 := blk_frozen BK525.out 2))
        refine bodyPost_ret (results_cell_row rfl _ _ gb525 85 #[.int .i64 (rd y526 t529), .int .i64 t535, .int .i64 (wrap64 (1 + t539))] (0, 0) _ rfl z121_14 Try.underlying85 rfl (by kernel_rfl)) rfl ?_
        exact ⟨z121_1, z121_7, z121_8, z121_6⟩
       ·rw [if_neg c41] at H
        have c41b0 : ((rd y526 t529) == 6) = false := beq_eq_false_iff_ne.mpr c41
        have c41b1 : ((rd y526 t529) != 6) = true := bne_iff_ne.mpr c41
        simp only [Option.some.injEq, Prod.mk.injEq] at H
        obtain ⟨rfl, rfl, rfl, rfl⟩ := H
        go_wp2_with (first | ((with_reducible refine gate_callee (f := 71) rfl ?_); refine goesL_ (some 20) rfl rfl Try.func71 (by kernel_rfl) rfl #[.pointer (some ⟨g, 0, none⟩), .int .i64 a1] rfl (by (try simp only [List.map_toArray, List.map_cons, List.map_nil]); first | done | rfl | (simp only [List.length_drop, List.length_take]; rfl)) ?_; (with_reducible refine (spec_l6Rd_pick.calls kj5 g s0_0 t530 a1 t535 t536 w0 _ ?side1 ?side2 A30.out).mono ?_); (case side1 => repeat (first | (with_reducible first | exact HI0.out | apply IsS116.alloc | apply IsS116.drewN | apply IsS116.drew | apply IsS116.set_1 | refine IsS116.far ?_ NB0_525.out _ | refine IsS116.far ?_ NB0_532.out _) | exact HI0.out)); (case side2 => repeat (first | (with_reducible first | exact HB.out | apply below_alloc | apply pw_below_drewN | apply below_drew1 | refine below_set ?_ (IsS116.ge HI0.out) | refine below_set ?_ GE525.out | refine below_set ?_ GE532.out) | exact HB.out)); rintro e w51 ⟨rfl, hi, hb, hk⟩; refine ⟨_, rfl, ?_⟩; have n0_ := am_ (KeepBut.blk hk (bu BK525.out) NB525_0.out (by simp)); have n1_ := am_ (KeepBut.blk hk (bu BK532.out) NB532_0.out (by simp)); have n2_ := am_ (KeepBut.trans z121_6 hk (.inl rfl)); have n3_ := am_ (hb); have n4_ := am_ (hi); clear BK525 BK532 HK HB HI0; have BK525 := n0_; have BK532 := n1_; have HK := n2_; have HB := n3_; have HI0 := n4_; clear n0_ n1_ n2_ n3_ n4_; (try clear hb); (try clear hb2); (try clear hk); (try clear hi); have hnb52 := NB532_525.out; have hnc52 := NB525_532.out; have hnb53 := NB532_0.out; have hnc53 := NB0_532.out; have hcz54_0 : w51.cell? ⟨gb532, 0, none⟩ = some (.int .i64 (rd y526 t529)) := (blk_cell BK532.out 0).trans rfl; have hcz54_1 : w51.cell? ⟨gb532, 1, none⟩ = some (.int .i64 0) := (blk_cell BK532.out 1).trans rfl; have hcz54_2 : w51.cell? ⟨gb532, 2, none⟩ = some (.int .i64 0) := (blk_cell BK532.out 2).trans rfl; have hfz54_0 := blk_frozen BK532.out 0; have hfz54_1 := blk_frozen BK532.out 1; have hfz54_2 := blk_frozen BK532.out 2; have hnb55 := NB525_0.out; have hnc55 := NB0_525.out; have hcz56_0 : w51.cell? ⟨gb525, 0, none⟩ = some (.int .i64 0) := (blk_cell BK525.out 0).trans rfl; have hcz56_1 : w51.cell? ⟨gb525, 1, none⟩ = some (.int .i64 0) := (blk_cell BK525.out 1).trans rfl; have hcz56_2 : w51.cell? ⟨gb525, 2, none⟩ = some (.int .i64 0) := (blk_cell BK525.out 2).trans rfl; have hfz56_0 := blk_frozen BK525.out 0; have hfz56_1 := blk_frozen BK525.out 1; have hfz56_2 := blk_frozen BK525.out 2))
        refine bodyPost_ret (results_cell_row rfl _ _ gb525 85 #[.int .i64 (rd y526 t529), .int .i64 t535, .int .i64 0] (0, 0) _ rfl z121_14 Try.underlying85 rfl (by kernel_rfl)) rfl ?_
        exact ⟨z121_1, z121_7, z121_8, z121_6⟩
     ·replace c29 := Bool.eq_false_iff.mpr c29
      subst c29
      have H1 : (if (rd y526 t529) = 1 then ((spec_l6Rd_pick.f kj5 s0_0 t530 3).bind fun bt541 => (some ((rd y526 t529), 0, wrap64 (1 + bt541.1), bt541.2))) else (if (rd y526 t529) = 6 then ((spec_l6Rd_pick.f kj5 s0_0 t530 3).bind fun bt543 => (some ((rd y526 t529), 0, wrap64 (1 + bt543.1), bt543.2))) else (some ((rd y526 t529), 0, 0, t530)))) = some (r1, r2, r3, r4) := by rw [if_neg (show ¬ (false = true) by decide)] at H; exact H
      clear H
      have H := H1
      clear H1
      by_cases c57 : (rd y526 t529) = 1
      ·rw [if_pos c57] at H
       have c57b0 : ((rd y526 t529) == 1) = true := beq_iff_eq.mpr c57
       have c57b1 : ((rd y526 t529) != 1) = false := bne_eq_false_iff_eq.mpr c57
       clear c57
       replace H := Option.bind_eq_some_iff.mp H
       obtain ⟨⟨t541, t542⟩, A580, H⟩ := H
       replace H : (some ((rd y526 t529), 0, wrap64 (1 + t541), t542)) = some (r1, r2, r3, r4) := H
       have A58 := am_ A580
       clear A580
       simp only [Option.some.injEq, Prod.mk.injEq] at H
       obtain ⟨rfl, rfl, rfl, rfl⟩ := H
       have hnb59 := NB532_525.out
       have hnc59 := NB525_532.out
       have hnb60 := NB532_0.out
       have hnc60 := NB0_532.out
       have hcz61_0 : wc.cell? ⟨gb532, 0, none⟩ = some (.int .i64 (rd y526 t529)) := (blk_cell BK532.out 0).trans rfl
       have hcz61_1 : wc.cell? ⟨gb532, 1, none⟩ = some (.int .i64 0) := (blk_cell BK532.out 1).trans rfl
       have hcz61_2 : wc.cell? ⟨gb532, 2, none⟩ = some (.int .i64 0) := (blk_cell BK532.out 2).trans rfl
       have hfz61_0 := blk_frozen BK532.out 0
       have hfz61_1 := blk_frozen BK532.out 1
       have hfz61_2 := blk_frozen BK532.out 2
       go_wp2_with (first | ((with_reducible refine gate_callee (f := 71) rfl ?_); refine goesL_ (some 31) rfl rfl Try.func71 (by kernel_rfl) rfl #[.pointer (some ⟨g, 0, none⟩), .int .i64 3] rfl (by (try simp only [List.map_toArray, List.map_cons, List.map_nil]); first | done | rfl | (simp only [List.length_drop, List.length_take]; rfl)) ?_; (with_reducible refine (spec_l6Rd_pick.calls kj5 g s0_0 t530 3 t541 t542 w0 _ ?side1 ?side2 A58.out).mono ?_); (case side1 => repeat (first | (with_reducible first | exact HI0.out | apply IsS116.alloc | apply IsS116.drewN | apply IsS116.drew | apply IsS116.set_1 | refine IsS116.far ?_ NB0_525.out _ | refine IsS116.far ?_ NB0_532.out _) | exact HI0.out)); (case side2 => repeat (first | (with_reducible first | exact HB.out | apply below_alloc | apply pw_below_drewN | apply below_drew1 | refine below_set ?_ (IsS116.ge HI0.out) | refine below_set ?_ GE525.out | refine below_set ?_ GE532.out) | exact HB.out)); rintro e w62 ⟨rfl, hi, hb, hk⟩; refine ⟨_, rfl, ?_⟩; have n0_ := am_ (KeepBut.blk hk (bu BK525.out) NB525_0.out (by simp)); have n1_ := am_ (KeepBut.blk hk (bu BK532.out) NB532_0.out (by simp)); have n2_ := am_ (KeepBut.trans z121_6 hk (.inl rfl)); have n3_ := am_ (hb); have n4_ := am_ (hi); clear BK525 BK532 HK HB HI0; have BK525 := n0_; have BK532 := n1_; have HK := n2_; have HB := n3_; have HI0 := n4_; clear n0_ n1_ n2_ n3_ n4_; (try clear hb); (try clear hb2); (try clear hk); (try clear hi); have hcz63_0 : w62.cell? ⟨gb532, 0, none⟩ = some (.int .i64 (rd y526 t529)) := (blk_cell BK532.out 0).trans rfl; have hcz63_1 : w62.cell? ⟨gb532, 1, none⟩ = some (.int .i64 0) := (blk_cell BK532.out 1).trans rfl; have hcz63_2 : w62.cell? ⟨gb532, 2, none⟩ = some (.int .i64 0) := (blk_cell BK532.out 2).trans rfl; have hfz63_0 := blk_frozen BK532.out 0; have hfz63_1 := blk_frozen BK532.out 1; have hfz63_2 := blk_frozen BK532.out 2; have hnb64 := NB525_0.out; have hnc64 := NB0_525.out; have hcz65_0 : w62.cell? ⟨gb525, 0, none⟩ = some (.int .i64 0) := (blk_cell BK525.out 0).trans rfl; have hcz65_1 : w62.cell? ⟨gb525, 1, none⟩ = some (.int .i64 0) := (blk_cell BK525.out 1).trans rfl; have hcz65_2 : w62.cell? ⟨gb525, 2, none⟩ = some (.int .i64 0) := (blk_cell BK525.out 2).trans rfl; have hfz65_0 := blk_frozen BK525.out 0; have hfz65_1 := blk_frozen BK525.out 1; have hfz65_2 := blk_frozen BK525.out 2))
       refine bodyPost_ret (results_cell_row rfl _ _ gb525 85 #[.int .i64 (rd y526 t529), .int .i64 0, .int .i64 (wrap64 (1 + t541))] (0, 0) _ rfl z121_13 Try.underlying85 rfl (by kernel_rfl)) rfl ?_
       exact ⟨z121_1, z121_7, z121_8, z121_6⟩
      ·rw [if_neg c57] at H
       have c57b0 : ((rd y526 t529) == 1) = false := beq_eq_false_iff_ne.mpr c57
       have c57b1 : ((rd y526 t529) != 1) = true := bne_iff_ne.mpr c57
       by_cases c66 : (rd y526 t529) = 6
       ·rw [if_pos c66] at H
        have c66b0 : ((rd y526 t529) == 6) = true := beq_iff_eq.mpr c66
        have c66b1 : ((rd y526 t529) != 6) = false := bne_eq_false_iff_eq.mpr c66
        clear c66
        replace H := Option.bind_eq_some_iff.mp H
        obtain ⟨⟨t543, t544⟩, A670, H⟩ := H
        replace H : (some ((rd y526 t529), 0, wrap64 (1 + t543), t544)) = some (r1, r2, r3, r4) := H
        have A67 := am_ A670
        clear A670
        simp only [Option.some.injEq, Prod.mk.injEq] at H
        obtain ⟨rfl, rfl, rfl, rfl⟩ := H
        have hnb68 := NB532_525.out
        have hnc68 := NB525_532.out
        have hnb69 := NB532_0.out
        have hnc69 := NB0_532.out
        have hcz70_0 : wc.cell? ⟨gb532, 0, none⟩ = some (.int .i64 (rd y526 t529)) := (blk_cell BK532.out 0).trans rfl
        have hcz70_1 : wc.cell? ⟨gb532, 1, none⟩ = some (.int .i64 0) := (blk_cell BK532.out 1).trans rfl
        have hcz70_2 : wc.cell? ⟨gb532, 2, none⟩ = some (.int .i64 0) := (blk_cell BK532.out 2).trans rfl
        have hfz70_0 := blk_frozen BK532.out 0
        have hfz70_1 := blk_frozen BK532.out 1
        have hfz70_2 := blk_frozen BK532.out 2
        go_wp2_with (first | ((with_reducible refine gate_callee (f := 71) rfl ?_); refine goesL_ (some 31) rfl rfl Try.func71 (by kernel_rfl) rfl #[.pointer (some ⟨g, 0, none⟩), .int .i64 3] rfl (by (try simp only [List.map_toArray, List.map_cons, List.map_nil]); first | done | rfl | (simp only [List.length_drop, List.length_take]; rfl)) ?_; (with_reducible refine (spec_l6Rd_pick.calls kj5 g s0_0 t530 3 t543 t544 w0 _ ?side1 ?side2 A67.out).mono ?_); (case side1 => repeat (first | (with_reducible first | exact HI0.out | apply IsS116.alloc | apply IsS116.drewN | apply IsS116.drew | apply IsS116.set_1 | refine IsS116.far ?_ NB0_525.out _ | refine IsS116.far ?_ NB0_532.out _) | exact HI0.out)); (case side2 => repeat (first | (with_reducible first | exact HB.out | apply below_alloc | apply pw_below_drewN | apply below_drew1 | refine below_set ?_ (IsS116.ge HI0.out) | refine below_set ?_ GE525.out | refine below_set ?_ GE532.out) | exact HB.out)); rintro e w71 ⟨rfl, hi, hb, hk⟩; refine ⟨_, rfl, ?_⟩; have n0_ := am_ (KeepBut.blk hk (bu BK525.out) NB525_0.out (by simp)); have n1_ := am_ (KeepBut.blk hk (bu BK532.out) NB532_0.out (by simp)); have n2_ := am_ (KeepBut.trans z121_6 hk (.inl rfl)); have n3_ := am_ (hb); have n4_ := am_ (hi); clear BK525 BK532 HK HB HI0; have BK525 := n0_; have BK532 := n1_; have HK := n2_; have HB := n3_; have HI0 := n4_; clear n0_ n1_ n2_ n3_ n4_; (try clear hb); (try clear hb2); (try clear hk); (try clear hi); have hcz72_0 : w71.cell? ⟨gb532, 0, none⟩ = some (.int .i64 (rd y526 t529)) := (blk_cell BK532.out 0).trans rfl; have hcz72_1 : w71.cell? ⟨gb532, 1, none⟩ = some (.int .i64 0) := (blk_cell BK532.out 1).trans rfl; have hcz72_2 : w71.cell? ⟨gb532, 2, none⟩ = some (.int .i64 0) := (blk_cell BK532.out 2).trans rfl; have hfz72_0 := blk_frozen BK532.out 0; have hfz72_1 := blk_frozen BK532.out 1; have hfz72_2 := blk_frozen BK532.out 2; have hnb73 := NB525_0.out; have hnc73 := NB0_525.out; have hcz74_0 : w71.cell? ⟨gb525, 0, none⟩ = some (.int .i64 0) := (blk_cell BK525.out 0).trans rfl; have hcz74_1 : w71.cell? ⟨gb525, 1, none⟩ = some (.int .i64 0) := (blk_cell BK525.out 1).trans rfl; have hcz74_2 : w71.cell? ⟨gb525, 2, none⟩ = some (.int .i64 0) := (blk_cell BK525.out 2).trans rfl; have hfz74_0 := blk_frozen BK525.out 0; have hfz74_1 := blk_frozen BK525.out 1; have hfz74_2 := blk_frozen BK525.out 2))
        refine bodyPost_ret (results_cell_row rfl _ _ gb525 85 #[.int .i64 (rd y526 t529), .int .i64 0, .int .i64 (wrap64 (1 + t543))] (0, 0) _ rfl z121_13 Try.underlying85 rfl (by kernel_rfl)) rfl ?_
        exact ⟨z121_1, z121_7, z121_8, z121_6⟩
       ·rw [if_neg c66] at H
        have c66b0 : ((rd y526 t529) == 6) = false := beq_eq_false_iff_ne.mpr c66
        have c66b1 : ((rd y526 t529) != 6) = true := bne_iff_ne.mpr c66
        simp only [Option.some.injEq, Prod.mk.injEq] at H
        obtain ⟨rfl, rfl, rfl, rfl⟩ := H
        have hnb75 := NB532_525.out
        have hnc75 := NB525_532.out
        have hnb76 := NB532_0.out
        have hnc76 := NB0_532.out
        have hcz77_0 : wc.cell? ⟨gb532, 0, none⟩ = some (.int .i64 (rd y526 t529)) := (blk_cell BK532.out 0).trans rfl
        have hcz77_1 : wc.cell? ⟨gb532, 1, none⟩ = some (.int .i64 0) := (blk_cell BK532.out 1).trans rfl
        have hcz77_2 : wc.cell? ⟨gb532, 2, none⟩ = some (.int .i64 0) := (blk_cell BK532.out 2).trans rfl
        have hfz77_0 := blk_frozen BK532.out 0
        have hfz77_1 := blk_frozen BK532.out 1
        have hfz77_2 := blk_frozen BK532.out 2
        have hnb78 := NB525_0.out
        have hnc78 := NB0_525.out
        have hcz79_0 : wc.cell? ⟨gb525, 0, none⟩ = some (.int .i64 0) := (blk_cell BK525.out 0).trans rfl
        have hcz79_1 : wc.cell? ⟨gb525, 1, none⟩ = some (.int .i64 0) := (blk_cell BK525.out 1).trans rfl
        have hcz79_2 : wc.cell? ⟨gb525, 2, none⟩ = some (.int .i64 0) := (blk_cell BK525.out 2).trans rfl
        have hfz79_0 := blk_frozen BK525.out 0
        have hfz79_1 := blk_frozen BK525.out 1
        have hfz79_2 := blk_frozen BK525.out 2
        go_wp2
        refine bodyPost_ret (results_cell_row rfl _ _ gb525 85 #[.int .i64 (rd y526 t529), .int .i64 0, .int .i64 0] (0, 0) _ rfl (by (with_reducible repeat (first | refine blk_drewN ?_ _ | refine blk_drew ?_ | refine blk_alloc ?_ _)); refine blk_put (cs := #[.int .i64 (rd y526 t529), .int .i64 0, .int .i64 0]) ?_ 2 _ rfl; (with_reducible repeat (first | refine blk_drewN ?_ _ | refine blk_drew ?_ | refine blk_alloc ?_ _)); refine blk_put (cs := #[.int .i64 (rd y526 t529), .int .i64 0, .int .i64 0]) ?_ 1 _ rfl; (with_reducible repeat (first | refine blk_drewN ?_ _ | refine blk_drew ?_ | refine blk_alloc ?_ _)); refine blk_put (cs := #[.int .i64 0, .int .i64 0, .int .i64 0]) ?_ 0 _ rfl; (with_reducible repeat (first | refine blk_drewN ?_ _ | refine blk_drew ?_ | refine blk_alloc ?_ _)); exact BK525.out) Try.underlying85 rfl (by kernel_rfl)) rfl ?_
        exact ⟨z121_1, z121_7, z121_8, z121_6⟩
  ·rw [if_neg c5] at H
   exact absurd H (by simp)
 ·rw [if_neg c4] at H
  exact absurd H (by simp)

end Go.Proofs.Ytefkbmhkhpekjaa.PB

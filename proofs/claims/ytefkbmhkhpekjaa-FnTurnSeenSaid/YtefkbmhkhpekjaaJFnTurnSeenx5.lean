-- Joined by wip/mclaim.py out of YtefkbmhkhpekjaaPBx60, YtefkbmhkhpekjaaPBx91, YtefkbmhkhpekjaaPBx40, YtefkbmhkhpekjaaPBx107, YtefkbmhkhpekjaaPBx63, YtefkbmhkhpekjaaPBx68, YtefkbmhkhpekjaaPBx61
import Derived.Test.YtefkbmhkhpekjaaPBx0
import Derived.Test.YtefkbmhkhpekjaaPBx100
import Derived.Test.YtefkbmhkhpekjaaJFnTurnSeenx6
import Derived.Test.YtefkbmhkhpekjaaPBx114
import Derived.Test.YtefkbmhkhpekjaaPBx31
import Derived.Test.YtefkbmhkhpekjaaPBx66
import Derived.Test.YtefkbmhkhpekjaaPBx97
namespace Go.Proofs.Ytefkbmhkhpekjaa.PB
open Go.RowKit Go.Proofs.YtefkbmhkhpekjaaW.PrintWords Go.Proofs.YtefkbmhkhpekjaaW.PrintLast Go.Proofs.YtefkbmhkhpekjaaW.PrintMore
attribute [local go_sem] max2_int min2_int max_two min_two max_three min_three max_four min_four   -- for this text's walks alone
open Go.Proofs.YtefkbmhkhpekjaaMine
set_option linter.unusedVariables false
set_option linter.unusedSimpArgs false

theorem z60_1 {p : Prop} (h : p := by first | rfl | (simp; done) | (simp [*]; done)) : p := h
theorem z60_2 {p : Prop} (h : p := by first | (with_reducible assumption) | assumption) : p := h
theorem z60_3 {p : Prop} (h : p := by first | rfl | (simp [errW_none, errW_some] <;> rfl) | (simp [*, errW_none, errW_some] <;> rfl)) : p := h
theorem z60_4 {p : Prop} (h : p := by repeat (first | (with_reducible first | exact HB.out | apply below_alloc | apply pw_below_drewN | apply below_drew1) | exact HB.out)) : p := h
theorem z60_5 {p : Prop} (h : p := by first | exact Kd.R_nil _ _ _ _ _ | exact Kd.N_nil _ _ _ _ _ | exact Kd.V_nil _ _ _ _ _ | exact Kd.Q_nil _ _ _ _ _ | exact Kd.S_nil _ _ _ _ _) : p := h
theorem z60_6 {p : Prop} (h : p := by repeat (first | (with_reducible first | exact HB.out | apply below_alloc | apply pw_below_drewN | apply below_drew1 | refine below_set ?_ GE00.out) | exact HB.out)) : p := h
theorem z60_7 {p : Prop} (h : p := by repeat (first | (with_reducible first | exact HB.out | apply below_alloc | apply pw_below_drewN | apply below_drew1 | refine below_set ?_ GE00.out | refine below_set ?_ GE01.out) | exact HB.out)) : p := h
theorem z60_8 {p : Prop} (h : p := by repeat (first | (with_reducible first | exact HB.out | apply below_alloc | apply pw_below_drewN | apply below_drew1 | refine below_set ?_ GE00.out | refine below_set ?_ GE01.out | refine below_set ?_ GE02.out) | exact HB.out)) : p := h
theorem z60_9 {p : Prop} (h : p := by repeat (first | (with_reducible first | exact HB.out | apply below_alloc | apply pw_below_drewN | apply below_drew1 | refine below_set ?_ GE00.out | refine below_set ?_ GE01.out | refine below_set ?_ GE02.out | refine below_set ?_ GE03.out) | exact HB.out)) : p := h
/-! ### spec_TurnSeen: function 60 -/
mutual
def spec_TurnSeen.j0 : Nat → List Int → Bool → List (List (S85)) → List Int → List Int → Option (List Int × List Int × Bool)
  | 0, _, _, _, _, _ => none
  | k + 1, x2, x23, x002, x99, x001 => if x23 = true then (some (([] : List Int), ([] : List Int), false)) else (spec_TurnSeen.l0 k x2 (([0] : List Int)) 0 x002 x99 x001)
def spec_TurnSeen.l0 : Nat → List Int → List Int → Int → List (List (S85)) → List Int → List Int → Option (List Int × List Int × Bool)
  | 0, _, _, _, _, _, _ => none
  | k + 1, x2, x8, x9, x002, x99, x001 => if x9 < (x002.length : Int) then (if 0 ≤ x9 then (if x9 < (x8.length : Int) then (if x9 ≤ (wrap64 (x9 + 1)) then (if (wrap64 (x9 + 1)) ≤ (x002.length : Int) then ((spec_ProgReads.f k ((x002.take ((wrap64 (x9 + 1)) : Int).toNat).drop (x9 : Int).toNat)).bind fun t000 => (if x8.length < 17592186044416 then (spec_TurnSeen.l0 k x2 (x8 ++ [wrap64 ((rd x8 x9) + t000)]) (wrap64 (x9 + 1)) x002 x99 x001) else (none))) else (none)) else (none)) else (none)) else (none)) else ((some (([] : List Int) : List Int)).bind fun y07 => (if y07.length + x001.length < 17592186044416 then (spec_TurnSeen.l1 k x2 x8 0 x99 x001 (([] : List Int)) (y07 ++ x001)) else (none)))
def spec_TurnSeen.l1 : Nat → List Int → List Int → Int → List Int → List Int → List Int → List Int → Option (List Int × List Int × Bool)
  | 0, _, _, _, _, _, _, _ => none
  | k + 1, x2, x8, x11, x99, x001, x04, x95 => if x11 < (x2.length : Int) then (if 0 ≤ x11 then (if 0 ≤ (rd x2 x11) then (if (rd x2 x11) < (x8.length : Int) then (if 0 ≤ (wrap64 ((rd x2 x11) + 1)) then (if (wrap64 ((rd x2 x11) + 1)) < (x8.length : Int) then (if 0 ≤ (rd x8 (rd x2 x11)) then (if (rd x8 (rd x2 x11)) ≤ (rd x8 (wrap64 ((rd x2 x11) + 1))) then (if (rd x8 (wrap64 ((rd x2 x11) + 1))) ≤ (x99.length : Int) then (if x04.length + ((x99.take ((rd x8 (wrap64 ((rd x2 x11) + 1))) : Int).toNat).drop ((rd x8 (rd x2 x11)) : Int).toNat).length < 17592186044416 then (spec_TurnSeen.l1 k x2 x8 (wrap64 (x11 + 1)) x99 x001 (x04 ++ ((x99.take ((rd x8 (wrap64 ((rd x2 x11) + 1))) : Int).toNat).drop ((rd x8 (rd x2 x11)) : Int).toNat)) x95) else (none)) else (none)) else (none)) else (none)) else (none)) else (none)) else (none)) else (none)) else (none)) else (some (x04, x95, true))
end
def spec_TurnSeen.f (k : Nat) (l0_0 : List (List (S85))) (l1_0 : List Int) (l1_1 : List Int) (l2 : List Int) : Option (List Int × List Int × Bool) := (spec_SeenOk.f k l0_0 l1_0 l1_1).bind fun t003 => (if t003 = true then ((spec_l22Row.f k l2 (l0_0.length : Int)).bind fun t96 => (spec_TurnSeen.j0 k l2 (!t96) l0_0 l1_0 l1_1)) else (spec_TurnSeen.j0 k l2 true l0_0 l1_0 l1_1))
def spec_TurnSeen.T7 : Bool × List (List Nat × List Nat) := (true, [([], []), ([], []), ([], []), ([1, 2], [1, 2]), ([3], [3]), ([], []), ([5], [5]), ([], []), ([], []), ([8], [8]), ([6, 7, 9], [6, 7, 9]), ([10], [10]), ([11], [11]), ([4, 12], [4, 12]), ([13], [13]), ([0, 14, 12], [0, 14]), ([15, 15, 0, 1, 2, 3, 4, 5, 6, 7, 8, 9, 10, 11, 12, 13, 14, 15], [0, 1, 15])])
def spec_TurnSeen.B7 : List Nat := [0, 0, 0, 6, 14, 0, 32, 0, 0, 256, 992, 2016, 4064, 8190, 16382, 32767, 65535]
theorem spec_TurnSeen.tab7 : rtab .any (opsOf Try.f60 7) = spec_TurnSeen.T7 := by kernel_rfl
theorem spec_TurnSeen.bits7 : waitsOk spec_TurnSeen.T7.2 spec_TurnSeen.B7 = true := by kernel_rfl
def spec_TurnSeen.T12 : Bool × List (List Nat × List Nat) := (true, [([], []), ([0], [0]), ([], []), ([2], [2]), ([], []), ([], []), ([], []), ([5, 6], [5, 6]), ([7], [7]), ([4, 8], [4, 8]), ([9], [9]), ([], []), ([], []), ([], []), ([12, 13], [12, 13]), ([14], [14]), ([15], [15]), ([11, 16], [11, 16]), ([17], [17]), ([3, 10, 18], [3, 10, 18]), ([1, 19], [1, 19]), ([0, 1, 2, 3, 4, 5, 6, 7, 8, 9, 10, 11, 12, 13, 14, 15, 16, 17, 18, 19, 20], []), ([21, 20, 20, 0, 1, 2, 3, 4, 5, 6, 7, 8, 9, 10, 11, 12, 13, 14, 15, 16, 17, 18, 19, 20], [20, 21])])
def spec_TurnSeen.B12 : List Nat := [0, 1, 0, 4, 0, 0, 0, 96, 224, 496, 1008, 0, 0, 0, 12288, 28672, 61440, 129024, 260096, 524284, 1048575, 2097151, 4194303]
theorem spec_TurnSeen.tab12 : rtab .any (opsOf Try.f60 12) = spec_TurnSeen.T12 := by kernel_rfl
theorem spec_TurnSeen.bits12 : waitsOk spec_TurnSeen.T12.2 spec_TurnSeen.B12 = true := by kernel_rfl
set_option maxHeartbeats 8000000 in
set_option maxRecDepth 100000 in
theorem spec_TurnSeen.calls (k : Nat) (A0_0 : Option Addr) (c0_0 : Nat) (l0_0 : List (List (S85))) (A1_0 : Option Addr) (c1_0 : Nat) (l1_0 : List Int) (A1_1 : Option Addr) (c1_1 : Nat) (l1_1 : List Int) (A2 : Option Addr) (c2 : Nat) (l2 : List Int) (r1 : List Int) (r2 : List Int) (r3 : Bool) (w : World) (hr0_0 : Kd.C (Kd.slice 85 k85) w A0_0 l0_0.length l0_0) (hc0_0 : l0_0.length ≤ c0_0) (hr1_0 : Kd.C (Kd.int .i64) w A1_0 l1_0.length l1_0) (hc1_0 : l1_0.length ≤ c1_0) (hr1_1 : Kd.C (Kd.int .i64) w A1_1 l1_1.length l1_1) (hc1_1 : l1_1.length ≤ c1_1) (hr2 : Kd.C (Kd.int .i64) w A2 l2.length l2) (hc2 : l2.length ≤ c2) (h : spec_TurnSeen.f k l0_0 l1_0 l1_1 l2 = some (r1, r2, r3)) :
  Calls Try.prog 60 #[.agg #[.slice A0_0 l0_0.length c0_0], .agg #[.slice A1_0 l1_0.length c1_0, .slice A1_1 l1_1.length c1_1], .slice A2 l2.length c2] w fun e w' => ∃ v0_ v1_ : Value, e = .returned (.tuple #[.agg #[v0_, v1_], .bool r3]) ∧ Kd.R (Kd.int .i64) 3 w' w.heap.size (fun k_ => some k_ ≠ (v1_ : Value).ownBlock) v0_ r1 ∧ Kd.R (Kd.int .i64) 3 w' w.heap.size (fun k_ => some k_ ≠ (v0_ : Value).ownBlock) v1_ r2 ∧ Below w.heap.size w w' := by
 have hu35 := Try.underlying35
 have hu24 := Try.underlying24
 have HR0_0 := am_ hr0_0
 have HC0_0 := am_ hc0_0
 clear hr0_0 hc0_0
 have HR1_0 := am_ hr1_0
 have HC1_0 := am_ hc1_0
 clear hr1_0 hc1_0
 have HR1_1 := am_ hr1_1
 have HC1_1 := am_ hc1_1
 clear hr1_1 hc1_1
 have HR2 := am_ hr2
 have HC2 := am_ hc2
 clear hr2 hc2
 have HB := am_ (Below.refl w.heap.size w)
 have H : ((spec_SeenOk.f k l0_0 l1_0 l1_1).bind fun t003 => (if t003 = true then ((spec_l22Row.f k l2 (l0_0.length : Int)).bind fun t96 => (spec_TurnSeen.j0 k l2 (!t96) l0_0 l1_0 l1_1)) else (spec_TurnSeen.j0 k l2 true l0_0 l1_0 l1_1))) = some (r1, r2, r3) := h
 clear h
 have HC4 := am_ H
 clear H
 go_enter Try.func60, Try.ntmps60
 go_upto_region 1 with (first | ((with_reducible refine gate_dst (N := 3) rfl ?_); (try (refine gate_guard (by rfl) ?_; dsimp only)); refine box_event ?hg (N := 3) ?hd (cs := #[.slice A0_0 l0_0.length c0_0]) (t := 35) ?hr ?_; (case hd => rfl); (case hg => rfl); (case hr => first | (go_simp; done) | (go_simp; rfl)); intro gb00 hg w5 hbox hb; have n0_ := am_ (below_step z60_4 hb); have n1_ := am_ (hbox); have n2_ := am_ (by rw [hg]; exact (below_size z60_4) : w.heap.size ≤ gb00); have n3_ := am_ (by rw [hg]; exact (below_size z60_4) : w.heap.size ≤ gb00); clear HB; have HB := n0_; have BK00 := n1_; have GW00 := n2_; have GE00 := n3_; clear n0_ n1_ n2_ n3_; clear hb hbox hg) | ((with_reducible refine gate_dst (N := 4) rfl ?_); (try (refine gate_guard (by rfl) ?_; dsimp only)); refine box_event ?hg (N := 4) ?hd (cs := #[.slice A1_0 l1_0.length c1_0, .slice A1_1 l1_1.length c1_1]) (t := 24) ?hr ?_; (case hd => rfl); (case hg => rfl); (case hr => first | (go_simp; done) | (go_simp; rfl)); intro gb01 hg w6 hbox hb; have n0_ := am_ (blk_below (bu BK00.out) hb); have n1_ := am_ (below_step z60_6 hb); have n2_ := am_ (hbox); have n3_ := am_ (by rw [hg]; exact (below_size z60_6) : w.heap.size ≤ gb01); have n4_ := am_ (by rw [hg]; exact (below_size z60_6) : w.heap.size ≤ gb01); have n5_ := am_ (by rw [hg]; exact Nat.ne_of_lt (blk_lt (bu BK00.out)) : gb00 ≠ gb01); have n6_ := am_ (by rw [hg]; exact Nat.ne_of_gt (blk_lt (bu BK00.out)) : gb01 ≠ gb00); clear BK00 HB; have BK00 := n0_; have HB := n1_; have BK01 := n2_; have GW01 := n3_; have GE01 := n4_; have NB00_01 := n5_; have NB01_00 := n6_; clear n0_ n1_ n2_ n3_ n4_ n5_ n6_; clear hb hbox hg) | ((with_reducible refine gate_dst (N := 6) rfl ?_); (try (refine gate_guard (by rfl) ?_; dsimp only)); refine box_event ?hg (N := 6) ?hd (cs := #[.slice none 0 0, .slice none 0 0]) (t := 24) ?hr ?_; (case hd => rfl); (case hg => rfl); (case hr => first | (go_simp; done) | (go_simp; rfl)); intro gb02 hg w7 hbox hb; have n0_ := am_ (blk_below (bu BK00.out) hb); have n1_ := am_ (blk_below (bu BK01.out) hb); have n2_ := am_ (below_step z60_7 hb); have n3_ := am_ (hbox); have n4_ := am_ (by rw [hg]; exact (below_size z60_7) : w.heap.size ≤ gb02); have n5_ := am_ (by rw [hg]; exact (below_size z60_7) : w.heap.size ≤ gb02); have n6_ := am_ (by rw [hg]; exact Nat.ne_of_lt (blk_lt (bu BK00.out)) : gb00 ≠ gb02); have n7_ := am_ (by rw [hg]; exact Nat.ne_of_gt (blk_lt (bu BK00.out)) : gb02 ≠ gb00); have n8_ := am_ (by rw [hg]; exact Nat.ne_of_lt (blk_lt (bu BK01.out)) : gb01 ≠ gb02); have n9_ := am_ (by rw [hg]; exact Nat.ne_of_gt (blk_lt (bu BK01.out)) : gb02 ≠ gb01); clear BK00 BK01 HB; have BK00 := n0_; have BK01 := n1_; have HB := n2_; have BK02 := n3_; have GW02 := n4_; have GE02 := n5_; have NB00_02 := n6_; have NB02_00 := n7_; have NB01_02 := n8_; have NB02_01 := n9_; clear n0_ n1_ n2_ n3_ n4_ n5_ n6_ n7_ n8_ n9_; clear hb hbox hg))
 (try simp only [Act.put, List.setIfInBounds_toArray, List.set_cons_zero, List.set_cons_succ])
 go_cut [23] (fun v23 wc => ∃ (kq : Nat) (x23_3 : Bool), v23 = .bool x23_3 ∧ Aside0 (spec_TurnSeen.j0 kq l2 x23_3 l0_0 l1_0 l1_1 = some (r1, r2, r3)) ∧ Aside0 (kq ≤ k) ∧ Aside0 (wc.heap[gb00]? = some (.cells #[(.slice A0_0 l0_0.length c0_0)] 35 (0, 0))) ∧ Aside0 (wc.heap[gb01]? = some (.cells #[(.slice A1_0 l1_0.length c1_0), (.slice A1_1 l1_1.length c1_1)] 24 (0, 0))) ∧ Aside0 (wc.heap[gb02]? = some (.cells #[(.slice none 0 0), (.slice none 0 0)] 24 (0, 0))) ∧ Aside0 (Below w.heap.size w wc))
 case first =>
  have H := HC4.out
  clear HC4
  replace H := Option.bind_eq_some_iff.mp H
  obtain ⟨t003, A80, H⟩ := H
  replace H : (if t003 = true then ((spec_l22Row.f k l2 (l0_0.length : Int)).bind fun t96 => (spec_TurnSeen.j0 k l2 (!t96) l0_0 l1_0 l1_1)) else (spec_TurnSeen.j0 k l2 true l0_0 l1_0 l1_1)) = some (r1, r2, r3) := H
  have A8 := am_ A80
  clear A80
  by_cases c9 : t003 = true
  ·subst c9
   have H1 : ((spec_l22Row.f k l2 (l0_0.length : Int)).bind fun t96 => (spec_TurnSeen.j0 k l2 (!t96) l0_0 l1_0 l1_1)) = some (r1, r2, r3) := by rw [if_pos rfl] at H; exact H
   clear H
   have H := H1
   clear H1
   replace H := Option.bind_eq_some_iff.mp H
   obtain ⟨t96, A100, H⟩ := H
   replace H : (spec_TurnSeen.j0 k l2 (!t96) l0_0 l1_0 l1_1) = some (r1, r2, r3) := H
   have A10 := am_ A100
   clear A100
   have H' := am_ H
   clear H
   have hnb11 := NB00_01.out
   have hnc11 := NB01_00.out
   have hnb12 := NB00_02.out
   have hnc12 := NB02_00.out
   have hcz13_0 := cf0 BK00.out
   have hfz13_0 := blk_frozen BK00.out 0
   have hnb14 := NB01_02.out
   have hnc14 := NB02_01.out
   have hcz15_0 := cf0 BK01.out
   have hcz15_1 := cf1 BK01.out
   have hfz15_0 := blk_frozen BK01.out 0
   have hfz15_1 := blk_frozen BK01.out 1
   go_wp2_with (first | ((with_reducible refine gate_callee (f := 104) rfl ?_); refine goesL_ (some 14) rfl rfl Try.func104 (by kernel_rfl) rfl #[.agg #[.slice A0_0 l0_0.length c0_0], .agg #[.slice A1_0 l1_0.length c1_0, .slice A1_1 l1_1.length c1_1]] rfl (by (try simp only [List.map_toArray, List.map_cons, List.map_nil]); first | done | rfl | (simp only [List.length_drop, List.length_take]; rfl)) ?_; (with_reducible refine (spec_SeenOk.calls k _ _ l0_0 _ _ l1_0 _ _ l1_1 true _ ?side1 ?side2 ?side3 ?side4 ?side5 ?side6 A8.out).mono ?_); (case side1 => repeat (first | exact (Kd.C_below HR0_0.out HB.out) | (with_reducible refine Kd.C_alloc ?_ _) | (with_reducible refine Kd.C_drewN ?_ _) | (with_reducible refine Kd.C_drew ?_))); (case side2 => exact HC0_0.out); (case side3 => repeat (first | exact (Kd.C_below HR1_0.out HB.out) | (with_reducible refine Kd.C_alloc ?_ _) | (with_reducible refine Kd.C_drewN ?_ _) | (with_reducible refine Kd.C_drew ?_))); (case side4 => exact HC1_0.out); (case side5 => repeat (first | exact (Kd.C_below HR1_1.out HB.out) | (with_reducible refine Kd.C_alloc ?_ _) | (with_reducible refine Kd.C_drewN ?_ _) | (with_reducible refine Kd.C_drew ?_))); (case side6 => exact HC1_1.out); rintro e w16 ⟨rfl, hb⟩; refine ⟨_, rfl, ?_⟩; replace BK00 := am_ (blk_below (bu BK00.out) hb); replace BK01 := am_ (blk_below (bu BK01.out) hb); replace BK02 := am_ (blk_below (bu BK02.out) hb); replace HB := am_ (below_step z60_8 hb); (try clear hb); (try clear hb2); (try clear hk); (try clear hi); have hcz17_0 := cf0 BK00.out; have hfz17_0 := blk_frozen BK00.out 0) | (go_at_call 100; (with_reducible refine (spec_l22Row.calls k _ _ l2 (l0_0.length : Int) t96 _ ?side1 ?side2 A10.out).mono ?_); (case side1 => repeat (first | exact (Kd.C_below HR2.out HB.out) | (with_reducible refine Kd.C_alloc ?_ _) | (with_reducible refine Kd.C_drewN ?_ _) | (with_reducible refine Kd.C_drew ?_))); (case side2 => exact HC2.out); rintro e w' ⟨rfl, ⟨nd, rfl⟩⟩))
   go_meet
   case rel => exact ⟨_, (!t96), z60_1, H', ⟨by first | omega | exact Nat.le_refl _⟩, ⟨bu BK00.out⟩, ⟨bu BK01.out⟩, ⟨bu BK02.out⟩, ⟨z60_8⟩⟩
  replace c9 := Bool.eq_false_iff.mpr c9
  subst c9
  have H1 : (spec_TurnSeen.j0 k l2 true l0_0 l1_0 l1_1) = some (r1, r2, r3) := by rw [if_neg (show ¬ (false = true) by decide)] at H; exact H
  clear H
  have H := H1
  clear H1
  have H' := am_ H
  clear H
  have hnb18 := NB00_01.out
  have hnc18 := NB01_00.out
  have hnb19 := NB00_02.out
  have hnc19 := NB02_00.out
  have hcz20_0 := cf0 BK00.out
  have hfz20_0 := blk_frozen BK00.out 0
  have hnb21 := NB01_02.out
  have hnc21 := NB02_01.out
  have hcz22_0 := cf0 BK01.out
  have hcz22_1 := cf1 BK01.out
  have hfz22_0 := blk_frozen BK01.out 0
  have hfz22_1 := blk_frozen BK01.out 1
  go_wp2_with (first | ((with_reducible refine gate_callee (f := 104) rfl ?_); refine goesL_ (some 14) rfl rfl Try.func104 (by kernel_rfl) rfl #[.agg #[.slice A0_0 l0_0.length c0_0], .agg #[.slice A1_0 l1_0.length c1_0, .slice A1_1 l1_1.length c1_1]] rfl (by (try simp only [List.map_toArray, List.map_cons, List.map_nil]); first | done | rfl | (simp only [List.length_drop, List.length_take]; rfl)) ?_; (with_reducible refine (spec_SeenOk.calls k _ _ l0_0 _ _ l1_0 _ _ l1_1 false _ ?side1 ?side2 ?side3 ?side4 ?side5 ?side6 A8.out).mono ?_); (case side1 => repeat (first | exact (Kd.C_below HR0_0.out HB.out) | (with_reducible refine Kd.C_alloc ?_ _) | (with_reducible refine Kd.C_drewN ?_ _) | (with_reducible refine Kd.C_drew ?_))); (case side2 => exact HC0_0.out); (case side3 => repeat (first | exact (Kd.C_below HR1_0.out HB.out) | (with_reducible refine Kd.C_alloc ?_ _) | (with_reducible refine Kd.C_drewN ?_ _) | (with_reducible refine Kd.C_drew ?_))); (case side4 => exact HC1_0.out); (case side5 => repeat (first | exact (Kd.C_below HR1_1.out HB.out) | (with_reducible refine Kd.C_alloc ?_ _) | (with_reducible refine Kd.C_drewN ?_ _) | (with_reducible refine Kd.C_drew ?_))); (case side6 => exact HC1_1.out); rintro e w23 ⟨rfl, hb⟩; refine ⟨_, rfl, ?_⟩; replace BK00 := am_ (blk_below (bu BK00.out) hb); replace BK01 := am_ (blk_below (bu BK01.out) hb); replace BK02 := am_ (blk_below (bu BK02.out) hb); replace HB := am_ (below_step z60_8 hb); (try clear hb); (try clear hb2); (try clear hk); (try clear hi)))
  go_meet
  case rel => exact ⟨_, (true), z60_1, H', ⟨by first | omega | exact Nat.le_refl _⟩, ⟨bu BK00.out⟩, ⟨bu BK01.out⟩, ⟨bu BK02.out⟩, ⟨z60_8⟩⟩
 case rest =>
  clear HC4
  obtain ⟨kq, x23_3, rfl, HA, HJ3, BK00, BK01, BK02, HB⟩ := hcut
  cases kq with
  | zero => exact absurd HA.out (by simp [spec_TurnSeen.j0])
  | succ kj3 =>
   have H := HA.out
   clear HA
   simp only [spec_TurnSeen.j0] at H
   by_cases c24 : x23_3 = true
   ·subst c24
    have H1 : (some (([] : List Int), ([] : List Int), false)) = some (r1, r2, r3) := by rw [if_pos rfl] at H; exact H
    clear H
    have H := H1
    clear H1
    simp only [Option.some.injEq, Prod.mk.injEq] at H
    obtain ⟨rfl, rfl, rfl⟩ := H
    have hnb25 := NB02_00.out
    have hnc25 := NB00_02.out
    have hnb26 := NB02_01.out
    have hnc26 := NB01_02.out
    have hcz27_0 := cf0 BK02.out
    have hcz27_1 := cf1 BK02.out
    have hfz27_0 := blk_frozen BK02.out 0
    have hfz27_1 := blk_frozen BK02.out 1
    go_wp2
    refine bodyPost_ret (results_ct rfl _ _ gb02 24 #[.slice none 0 0, .slice none 0 0] (0, 0) _ rfl (by (with_reducible repeat (first | refine blk_drewN ?_ _ | refine blk_drew ?_ | refine blk_alloc ?_ _)); refine blk_put (cs := #[.slice none 0 0, .slice none 0 0]) ?_ 1 _ rfl; (with_reducible repeat (first | refine blk_drewN ?_ _ | refine blk_drew ?_ | refine blk_alloc ?_ _)); refine blk_put (cs := #[.slice none 0 0, .slice none 0 0]) ?_ 0 _ rfl; (with_reducible repeat (first | refine blk_drewN ?_ _ | refine blk_drew ?_ | refine blk_alloc ?_ _)); exact BK02.out) Try.underlying24 rfl (by kernel_rfl)) rfl ?_
    exact ⟨_, _, z60_3, z60_5, z60_5, z60_8⟩
   replace c24 := Bool.eq_false_iff.mpr c24
   subst c24
   have H1 : (spec_TurnSeen.l0 kj3 l2 (([0] : List Int)) 0 l0_0 l1_0 l1_1) = some (r1, r2, r3) := by rw [if_neg (show ¬ (false = true) by decide)] at H; exact H
   clear H
   have H := H1
   clear H1
   obtain ⟨y97, hy97⟩ : ∃ y_ : List Int, y_ = (([0] : List Int)) := ⟨_, rfl⟩
   replace H : (spec_TurnSeen.l0 kj3 l2 y97 0 l0_0 l1_0 l1_1) = some (r1, r2, r3) := by first | (rw [hy97]; with_reducible exact H) | (have H2_ := (Option.bind_some _ _).symm.trans H; rw [hy97]; with_reducible exact H2_) | (have H2_ := (Option.bind_some _ _).symm.trans H; with_reducible exact H2_) | with_reducible exact H | (rw [hy97]; exact H) | exact H
   have Ny97 := am_ hy97
   clear hy97
   have H' := am_ H
   clear H
   go_wp2_with (first | ((with_reducible refine gate_dst (N := 25) rfl ?_); (try (refine gate_guard (by rfl) ?_; dsimp only)); refine Kd.R_lit (Kd.int .i64) _ 3 ?hg (N := 25) ?hd (xs := ([0] : List Int)) (inner := [.int .i64 0]) (ok := fun _ => True) (okp := fun _ => True) ?hr ?hp (fun _ hk => hk) trivial (Below.refl _ _) (Nat.le_refl _) (by simp) ?_; (case hd => rfl); (case hg => rfl); (case hr => first | (go_simp; done) | (go_simp; rfl)); (case hp => exact (Reps.one (show Kd.M (Kd.int .i64) _ _ _ 0 [.int .i64 0] from rfl) (Reps.none _ _))); intro v013 w28 ho29 hb hg_ hnew_; clear hg_ hnew_; (first | rw [← Ny97.out] at ho29 | (simp only [Int.reduceToNat] at ho29; rw [← Ny97.out] at ho29)); have HO010 := am_ (Kd.R_lower ho29 (below_size z60_8)); replace BK00 := am_ (blk_below (bu BK00.out) hb); replace BK01 := am_ (blk_below (bu BK01.out) hb); replace BK02 := am_ (blk_below (bu BK02.out) hb); replace HB := am_ (below_step z60_8 hb); clear hb ho29))
   go_loopg [8, 9] kj3 (fun kq v8 v9 w' => ∃ (x8_2 : List Int) (x9_2 : Int), v9 = .int .i64 x9_2 ∧ Aside0 (spec_TurnSeen.l0 kq l2 x8_2 x9_2 l0_0 l1_0 l1_1 = some (r1, r2, r3)) ∧ Aside0 (kq ≤ kj3) ∧ Aside0 (Kd.R (Kd.int .i64) 3 w' w.heap.size (fun _ => True) v8 x8_2) ∧ Aside0 (w'.heap[gb00]? = some (.cells #[(.slice A0_0 l0_0.length c0_0)] 35 (0, 0))) ∧ Aside0 (w'.heap[gb01]? = some (.cells #[(.slice A1_0 l1_0.length c1_0), (.slice A1_1 l1_1.length c1_1)] 24 (0, 0))) ∧ Aside0 (w'.heap[gb02]? = some (.cells #[(.slice none 0 0), (.slice none 0 0)] 24 (0, 0))) ∧ Aside0 (Below w.heap.size w w'))
   case atStart => exact ⟨(y97), (0), z60_1, H', ⟨Nat.le_refl _⟩, ⟨ru HO010.out⟩, ⟨bu BK00.out⟩, ⟨bu BK01.out⟩, ⟨bu BK02.out⟩, ⟨z60_8⟩⟩
   case round =>
    clear H'
    obtain ⟨x8_2, x9_2, rfl, HA, HK2, HO_8, BK00, BK01, BK02, HB⟩ := hrel
    cases gk with
    | zero => exact absurd HA.out (by simp [spec_TurnSeen.l0])
    | succ k2 =>
     have H := HA.out
     clear HA
     simp only [spec_TurnSeen.l0] at H
     by_cases c30 : x9_2 < (l0_0.length : Int)
     ·rw [if_pos c30] at H
      have c30b0 : decide (x9_2 < (l0_0.length : Int)) = true := decide_eq_true c30
      clear c30
      by_cases c31 : 0 ≤ x9_2
      ·rw [if_pos c31] at H
       have c31b0 : decide (0 ≤ x9_2) = true := decide_eq_true c31
       clear c31
       by_cases c32 : x9_2 < (x8_2.length : Int)
       ·rw [if_pos c32] at H
        have c32b0 : decide (x9_2 < (x8_2.length : Int)) = true := decide_eq_true c32
        clear c32
        have c33b0 := eq_true (of_decide_eq_true z60_2 : 0 ≤ x9_2)
        by_cases c34 : x9_2 ≤ (wrap64 (x9_2 + 1))
        ·rw [if_pos c34] at H
         have c34b0 := eq_true c34
         have c34b1 : decide (x9_2 ≤ (wrap64 (x9_2 + 1))) = true := decide_eq_true c34
         by_cases c35 : (wrap64 (x9_2 + 1)) ≤ (l0_0.length : Int)
         ·rw [if_pos c35] at H
          have c35b0 := eq_true c35
          have c35b1 : decide ((wrap64 (x9_2 + 1)) ≤ (l0_0.length : Int)) = true := decide_eq_true c35
          obtain ⟨y90, hy90⟩ : ∃ y_ : List (List (S85)), y_ = ((l0_0.take ((wrap64 (x9_2 + 1)) : Int).toNat).drop (x9_2 : Int).toNat) := ⟨_, rfl⟩
          replace H : ((spec_ProgReads.f k2 y90).bind fun t000 => (if x8_2.length < 17592186044416 then (spec_TurnSeen.l0 k2 l2 (x8_2 ++ [wrap64 ((rd x8_2 x9_2) + t000)]) (wrap64 (x9_2 + 1)) l0_0 l1_0 l1_1) else (none))) = some (r1, r2, r3) := by first | (rw [hy90]; with_reducible exact H) | (have H2_ := (Option.bind_some _ _).symm.trans H; rw [hy90]; with_reducible exact H2_) | (have H2_ := (Option.bind_some _ _).symm.trans H; with_reducible exact H2_) | with_reducible exact H | (rw [hy90]; exact H) | exact H
          have Ny90 := am_ hy90
          clear hy90
          replace H := Option.bind_eq_some_iff.mp H
          obtain ⟨t000, A360, H⟩ := H
          replace H : (if x8_2.length < 17592186044416 then (spec_TurnSeen.l0 k2 l2 (x8_2 ++ [wrap64 ((rd x8_2 x9_2) + t000)]) (wrap64 (x9_2 + 1)) l0_0 l1_0 l1_1) else (none)) = some (r1, r2, r3) := H
          have A36 := am_ A360
          clear A360
          by_cases c37 : x8_2.length < 17592186044416
          ·rw [if_pos c37] at H
           have LMc37 := am_ c37
           clear c37
           obtain ⟨y98, hy98⟩ : ∃ y_ : List Int, y_ = (x8_2 ++ [wrap64 ((rd x8_2 x9_2) + t000)]) := ⟨_, rfl⟩
           replace H : (spec_TurnSeen.l0 k2 l2 y98 (wrap64 (x9_2 + 1)) l0_0 l1_0 l1_1) = some (r1, r2, r3) := by first | (rw [hy98]; with_reducible exact H) | (have H2_ := (Option.bind_some _ _).symm.trans H; rw [hy98]; with_reducible exact H2_) | (have H2_ := (Option.bind_some _ _).symm.trans H; with_reducible exact H2_) | with_reducible exact H | (rw [hy98]; exact H) | exact H
           have Ny98 := am_ hy98
           clear hy98
           have H' := am_ H
           clear H
           have hnb38 := NB00_01.out
           have hnc38 := NB01_00.out
           have hnb39 := NB00_02.out
           have hnc39 := NB02_00.out
           have hcz40_0 := cf0 BK00.out
           have hfz40_0 := blk_frozen BK00.out 0
           try go_wp2
           replace HO_8 := am_ (Kd.R_drew HO_8.out)
           replace BK00 := am_ (blk_drew BK00.out)
           replace BK01 := am_ (blk_drew BK01.out)
           replace BK02 := am_ (blk_drew BK02.out)
           replace HB := am_ (below_drew1 HB.out)
           obtain ⟨Ao42, co42, eo42⟩ := Kd.R_slice HO_8.out
           (first | subst eo42 | (injection eo42 with f1_ f2_ f3_; have f4_ := f1_.symm; have f5_ := f3_.symm; clear f1_ f2_ f3_; subst f4_; subst f5_))
           have p91 : 0 ≤ (x9_2 : Int) := of_decide_eq_true z60_2
           have q91 : x9_2 < (x8_2.length : Int) := of_decide_eq_true z60_2
           obtain ⟨ad91, e91, hx91_0⟩ := Kd.at_int (Kd.R_reads' HO_8.out).2.2 x9_2 p91 q91
           cases e91
           replace p91 := eq_true p91
           replace q91 := eq_true q91
           have q43 : ((wrap64 (x9_2 + 1)) : Int) ≤ ((l0_0.length : Int) : Int) := of_decide_eq_true z60_2
           obtain ⟨i043, hi043, _, hsz43, _⟩ := info_parts info82
           have hroom43 : l0_0.length ≤ c0_0 := HC0_0.out
           have hC43 : Kd.C (Kd.slice 85 k85) _ A0_0 l0_0.length l0_0 := HR0_0.out
           have ql43 : (x9_2 : Int) ≤ ((wrap64 (x9_2 + 1)) : Int) := of_decide_eq_true z60_2
           have q043 : (0 : Int) ≤ (x9_2 : Int) := of_decide_eq_true z60_2
           have hcut43 := cut_mid (P := Try.prog) 33 82 .i64 .i64 Try.underlying33 hi043 1 hsz43 A0_0 l0_0.length c0_0 x9_2 (wrap64 (x9_2 + 1)) q043 ql43 q43 hroom43
           have hr43 := Kd.C_mid (lo := (x9_2 : Int).toNat) (hi := ((wrap64 (x9_2 + 1)) : Int).toNat) (c := c0_0) hC43 (by omega) (by omega) hroom43
           obtain ⟨A43, hA43⟩ : ∃ A1, A1 = (if c0_0 = (x9_2 : Int).toNat then A0_0 else (A0_0 : Option Addr).map (·.add ((x9_2 : Int).toNat * 1))) := ⟨_, rfl⟩
           obtain ⟨c43, hc43⟩ : ∃ c1, c1 = c0_0 - (x9_2 : Int).toNat := ⟨_, rfl⟩
           have hy43 : y90.length = ((wrap64 (x9_2 + 1)) : Int).toNat - (x9_2 : Int).toNat := (by rw [Ny90.out, List.length_drop, List.length_take] <;> omega)
           rw [show ((l0_0).take ((wrap64 (x9_2 + 1)) : Int).toNat).drop (x9_2 : Int).toNat = y90 from Ny90.out.symm] at hr43
           replace hr43 : Kd.C (Kd.slice 85 k85) _ A43 y90.length y90 := (by rw [hA43]; exact hr43)
           rw [← hy43, ← hA43, ← hc43] at hcut43
           have HR006 := am_ hr43
           have HC006 := am_ (show y90.length ≤ c43 from by rw [hy43, hc43]; exact Nat.sub_le_sub_right (Nat.le_trans (by omega) hroom43) _)
           clear hr43 hC43 hroom43 hi043 hsz43 hc43
           have KY43 := am_ hy43
           have KA43 := am_ hA43
           clear hy43 hA43
           replace q43 := eq_true q43
           refine start_ (n := 17) (S := fun w' => w'.cell? ⟨gb00, 0, none⟩ = some (.slice A0_0 l0_0.length c0_0) ∧ w'.cell? (ad91.add (x9_2).toNat) = some (.int .i64 (rd x8_2 x9_2))) (ds := [14, 15]) #[false, false, false, false, false, false, false, false, false, false, false, false, false, false, false, false, false] (by kernel_rfl) rfl rfl ⟨(blk_cell BK00.out 0).trans rfl, hx91_0⟩ (fun hHeld => ?_); refine with_tabW spec_TurnSeen.tab7 spec_TurnSeen.bits7 (fun HT_ HW_ => ?_)
           generalize wr.drew = w41 at HO_8 BK00 BK01 BK02 HB HR006 hx91_0 hHeld ⊢
           refine pure_ (i := 0) (N := some 33) (v := ?_) (a' := ?_) #[true, false, false, false, false, false, false, false, false, false, false, false, false, false, false, false, false] rfl rfl (any_of HT_.out (by kernel_rfl)) (fun _ _ _ h => h) (Or.inl ⟨by rfl, ?_⟩) ?_ ?_
           rotate_left
           ·intro w'
            go_simp
            with_reducible rfl
           rotate_left
           ·simp only [Act.put, List.setIfInBounds_toArray, List.set_cons_zero, List.set_cons_succ, i64_w, i32_w]
            rfl
           refine pure_ (i := 1) (N := some 34) (v := ?_) (a' := ?_) #[true, true, false, false, false, false, false, false, false, false, false, false, false, false, false, false, false] rfl rfl (any_of HT_.out (by kernel_rfl)) (fun _ _ _ h => h) (Or.inl ⟨by rfl, ?_⟩) ?_ ?_
           rotate_left
           ·intro w'
            go_simp
            with_reducible rfl
           rotate_left
           ·simp only [Act.put, List.setIfInBounds_toArray, List.set_cons_zero, List.set_cons_succ, i64_w, i32_w]
            rfl
           refine pure_ (i := 2) (N := some 35) (v := ?_) (a' := ?_) #[true, true, true, false, false, false, false, false, false, false, false, false, false, false, false, false, false] rfl rfl (any_of HT_.out (by kernel_rfl)) (fun _ _ _ h => h) (Or.inl ⟨by rfl, ?_⟩) ?_ ?_
           rotate_left
           ·intro w'
            go_simp
            with_reducible rfl
           rotate_left
           ·simp only [Act.put, List.setIfInBounds_toArray, List.set_cons_zero, List.set_cons_succ, i64_w, i32_w]
            rfl
           refine pure_ (i := 3) (N := some 36) (v := ?_) (a' := ?_) #[true, true, true, true, false, false, false, false, false, false, false, false, false, false, false, false, false] rfl rfl (any_of HT_.out (by kernel_rfl)) (fun _ _ _ h => h) (Or.inl ⟨by rfl, ?_⟩) ?_ ?_
           rotate_left
           ·intro w'
            go_simp
            with_reducible rfl
           rotate_left
           ·simp only [Act.put, List.setIfInBounds_toArray, List.set_cons_zero, List.set_cons_succ, i64_w, i32_w]
            rfl
           refine pure_ (i := 5) (N := some 38) (v := ?_) (a' := ?_) #[true, true, true, true, false, true, false, false, false, false, false, false, false, false, false, false, false] rfl rfl (any_of HT_.out (by kernel_rfl)) (fun _ _ _ h => h) (Or.inl ⟨by rfl, ?_⟩) ?_ ?_
           rotate_left
           ·intro w'
            go_simp
            with_reducible rfl
           rotate_left
           ·simp only [Act.put, List.setIfInBounds_toArray, List.set_cons_zero, List.set_cons_succ, i64_w, i32_w]
            rfl
           refine pure_ (i := 7) (N := some 40) (v := ?_) (a' := ?_) #[true, true, true, true, false, true, false, true, false, false, false, false, false, false, false, false, false] rfl rfl (any_of HT_.out (by kernel_rfl)) (fun _ _ _ h => h) (Or.inl ⟨by rfl, ?_⟩) ?_ ?_
           rotate_left
           ·intro w'
            go_simp
            with_reducible rfl
           rotate_left
           ·simp only [Act.put, List.setIfInBounds_toArray, List.set_cons_zero, List.set_cons_succ, i64_w, i32_w]
            rfl
           refine pure_ (i := 8) (N := some 41) (v := ?_) (a' := ?_) #[true, true, true, true, false, true, false, true, true, false, false, false, false, false, false, false, false] rfl rfl (any_of HT_.out (by kernel_rfl)) (fun _ _ _ h => h) (Or.inl ⟨by rfl, ?_⟩) ?_ ?_
           rotate_left
           ·intro w'
            go_simp
            with_reducible rfl
           rotate_left
           ·simp only [Act.put, List.setIfInBounds_toArray, List.set_cons_zero, List.set_cons_succ, i64_w, i32_w]
            rfl
           refine pure_ (i := 9) (N := some 42) (v := ?_) (a' := ?_) #[true, true, true, true, false, true, false, true, true, true, false, false, false, false, false, false, false] rfl rfl (any_of HT_.out (by kernel_rfl)) (fun _ _ _ h => h) (Or.inl ⟨by rfl, ?_⟩) ?_ ?_
           rotate_left
           ·intro w'
            go_simp
            with_reducible rfl
           rotate_left
           ·simp only [Act.put, List.setIfInBounds_toArray, List.set_cons_zero, List.set_cons_succ, i64_w, i32_w]
            rfl
           refine take_ (i := 4) (N := some 37) (v := ?_) (a' := ?_) #[true, true, true, true, true, true, false, true, true, true, false, false, false, false, false, false, false] rfl rfl (take_ofW HT_.out HW_.out (by kernel_rfl)) (fun _ _ _ h => h) (Or.inl ⟨by rfl, ?_⟩) hHeld ?_ ?_
           rotate_left
           ·rintro w' ⟨s0, s1⟩
            go_simp
            with_reducible rfl
           rotate_left
           ·simp only [Act.put, List.setIfInBounds_toArray, List.set_cons_zero, List.set_cons_succ, i64_w, i32_w]
            rfl
           refine take_ (i := 6) (N := some 39) (v := ?_) (a' := ?_) #[true, true, true, true, true, true, true, true, true, true, false, false, false, false, false, false, false] rfl rfl (take_ofW HT_.out HW_.out (by kernel_rfl)) (fun _ _ _ h => h) (Or.inl ⟨by rfl, ?_⟩) hHeld ?_ ?_
           rotate_left
           ·rintro w' ⟨s0, s1⟩
            go_simp
            with_reducible rfl
           rotate_left
           ·simp only [Act.put, List.setIfInBounds_toArray, List.set_cons_zero, List.set_cons_succ, i64_w, i32_w]
            rfl
           refine pure_ (i := 10) (N := some 43) (v := ?_) (a' := ?_) #[true, true, true, true, true, true, true, true, true, true, true, false, false, false, false, false, false] rfl rfl (any_of HT_.out (by kernel_rfl)) (fun _ _ _ h => h) (Or.inl ⟨by rfl, ?_⟩) ?_ ?_
           rotate_left
           ·intro w'
            go_simp
            with_reducible rfl
           rotate_left
           ·simp only [Act.put, List.setIfInBounds_toArray, List.set_cons_zero, List.set_cons_succ, i64_w, i32_w]
            rfl
           refine pure_ (i := 11) (N := some 44) (v := ?_) (a' := ?_) #[true, true, true, true, true, true, true, true, true, true, true, true, false, false, false, false, false] rfl rfl (any_of HT_.out (by kernel_rfl)) (fun _ _ _ h => h) (Or.inl ⟨by rfl, ?_⟩) ?_ ?_
           rotate_left
           ·intro w'
            go_simp
            with_reducible rfl
           rotate_left
           ·simp only [Act.put, List.setIfInBounds_toArray, List.set_cons_zero, List.set_cons_succ, i64_w, i32_w]
            rfl
           refine one_ (i := 12) (N := some 45) #[true, true, true, true, true, true, true, true, true, true, true, true, true, false, false, false, false] rfl rfl (one_of HT_.out (by kernel_rfl)) (by decide) (fun K hK => ?_)
           refine goes_ Try.func105 (by kernel_rfl) rfl #[.agg #[.slice A43 y90.length c43]] (by rfl) rfl rfl (by (try simp only [List.map_toArray, List.map_cons, List.map_nil]); first | done | rfl | (simp only [List.length_drop, List.length_take]; rfl)) ?_
           with_reducible refine (spec_ProgReads.calls k2 _ _ y90 t000 _ ?side1 ?side2 A36.out).mono ?_
           (case side1 => repeat (first | exact (Kd.C_below HR006.out HB.out) | (with_reducible refine Kd.C_alloc ?_ _) | (with_reducible refine Kd.C_drewN ?_ _) | (with_reducible refine Kd.C_drew ?_)))
           (case side2 => exact HC006.out)
           rintro e w44 ⟨rfl, hb⟩
           have HS1_ := (hb.cell (World.block_lt_of_cell? _ _ (hHeld.2))).trans (hHeld.2)
           refine ⟨_, rfl, ?_⟩
           replace HO_8 := am_ (Kd.R_below (ru HO_8.out) hb)
           replace BK00 := am_ (blk_below (bu BK00.out) hb)
           replace BK01 := am_ (blk_below (bu BK01.out) hb)
           replace BK02 := am_ (blk_below (bu BK02.out) hb)
           replace HB := am_ (below_step z60_8 hb)
           (try clear hb)
           (try clear hb2)
           (try clear hk)
           (try clear hi)
           refine hK.out _ _ ⟨(blk_cell BK00.out 0).trans rfl, HS1_⟩ (fun hHeld => ?_)
           clear hK K
           refine norm_ (a' := ?_) ?_ ?_
           rotate_left
           ·show Act.put _ (some 45) _ = _
            simp only [Act.put, List.setIfInBounds_toArray, List.set_cons_zero, List.set_cons_succ, i64_w, i32_w]
            rfl
           refine pure_ (i := 13) (N := some 46) (v := ?_) (a' := ?_) #[true, true, true, true, true, true, true, true, true, true, true, true, true, true, false, false, false] rfl rfl (any_of HT_.out (by kernel_rfl)) (fun _ _ _ h => h) (Or.inl ⟨by rfl, ?_⟩) ?_ ?_
           rotate_left
           ·intro w'
            go_simp
            with_reducible rfl
           rotate_left
           ·simp only [Act.put, List.setIfInBounds_toArray, List.set_cons_zero, List.set_cons_succ, i64_w, i32_w]
            rfl
           refine last_ (i := 14) (N := some 47) #[true, true, true, true, true, true, true, true, true, true, true, true, true, true, true, false, false] rfl rfl (one_of HT_.out (by kernel_rfl)) (by decide) (fun K hK => ?_)
           refine value_ (w1 := ?_) (v := ?_) (by rfl) rfl ?_ ?_
           rotate_left 2
           ·go_simp
            constructor
            ·rfl
            rfl
           refine hK.out _ _ ?_
           clear hK K
           refine norm_ (a' := ?_) ?_ ?_
           rotate_left
           ·show Act.put _ (some 47) _ = _
            simp only [Act.put, List.setIfInBounds_toArray, List.set_cons_zero, List.set_cons_succ, i64_w, i32_w]
            rfl
           refine last_ (i := 15) (N := some 48) #[true, true, true, true, true, true, true, true, true, true, true, true, true, true, true, true, false] rfl rfl (one_of HT_.out (by kernel_rfl)) (by decide) (fun K hK => ?_)
           refine Kd.R_append_step (Kd.int .i64) (w0 := w) w.heap.size (by rfl) (.tmp 33) (.tmp 47) 22 3 (.int .i64 0) 8 rfl Try.underlying22 info3 rfl (by decide) (by omega) (.slice (some ad91) x8_2.length co42) x8_2 (wrap64 ((rd x8_2 x9_2) + t000)) [.int .i64 (wrap64 ((rd x8_2 x9_2) + t000))] (fun _ => True) (fun _ => False) rfl rfl ?aP (fun _ hk => hk.elim) ?aF ?aO ?aB ?aS ?aL ?_
           (case aP => exact rfl)
           (case aB => exact z60_8)
           (case aF => exact (fun _ _ => trivial))
           (case aO => exact (ru HO_8.out))
           (case aS => exact (below_size z60_8))
           (case aL => have := LMc37.out; omega)
           intro v014 w45 ho hb hg hat
           rw [← Ny98.out] at ho
           replace BK00 := am_ (blk_grown (bu BK00.out) hg (Kd.R_ne HO_8.out BK00.out (by decide)))
           replace BK01 := am_ (blk_grown (bu BK01.out) hg (Kd.R_ne HO_8.out BK01.out (by decide)))
           replace BK02 := am_ (blk_grown (bu BK02.out) hg (Kd.R_ne HO_8.out BK02.out (by decide)))
           replace HB := am_ (hb)
           have HO011 := am_ (ho)
           clear HO_8 ho hb hg hat
           refine hK.out _ _ ?_
           clear hK K
           refine norm_ (a' := ?_) ?_ ?_
           rotate_left
           ·show Act.put _ (some 48) _ = _
            simp only [Act.put, List.setIfInBounds_toArray, List.set_cons_zero, List.set_cons_succ, i64_w, i32_w]
            rfl
           refine pure_ (i := 16) (N := some 8) (v := ?_) (a' := ?_) #[true, true, true, true, true, true, true, true, true, true, true, true, true, true, true, true, true] rfl rfl (any_of HT_.out (by kernel_rfl)) (fun _ _ _ h => h) (Or.inl ⟨by rfl, ?_⟩) ?_ ?_
           rotate_left
           ·intro w'
            go_simp
            with_reducible rfl
           rotate_left
           ·simp only [Act.put, List.setIfInBounds_toArray, List.set_cons_zero, List.set_cons_succ, i64_w, i32_w]
            rfl
           refine done_ (done_of HT_.out (by kernel_rfl)) ?_
           try go_wp2
           go_roundg k2
           case measure => have := HJ3.out; have := HK2.out; omega
           case rel => exact ⟨(y98), (wrap64 (x9_2 + 1)), z60_1, H', ⟨by have := HJ3.out; have := HK2.out; omega⟩, ⟨ru HO011.out⟩, ⟨bu BK00.out⟩, ⟨bu BK01.out⟩, ⟨bu BK02.out⟩, ⟨z60_8⟩⟩
          rw [if_neg c37] at H
          exact absurd H (by simp)
         rw [if_neg c35] at H
         exact absurd H (by simp)
        rw [if_neg c34] at H
        exact absurd H (by simp)
       rw [if_neg c32] at H
       exact absurd H (by simp)
      rw [if_neg c31] at H
      exact absurd H (by simp)
     rw [if_neg c30] at H
     have c30b0 : decide (x9_2 < (l0_0.length : Int)) = false := decide_eq_false c30
     clear c30
     obtain ⟨y09, hy09⟩ : ∃ y_ : List Int, y_ = (([] : List Int)) := ⟨_, rfl⟩
     replace H : ((some (([] : List Int) : List Int)).bind fun y07 => (if y07.length + l1_1.length < 17592186044416 then (spec_TurnSeen.l1 k2 l2 x8_2 0 l1_0 l1_1 y09 (y07 ++ l1_1)) else (none))) = some (r1, r2, r3) := by first | (rw [hy09]; with_reducible exact H) | (have H2_ := (Option.bind_some _ _).symm.trans H; rw [hy09]; with_reducible exact H2_) | (have H2_ := (Option.bind_some _ _).symm.trans H; with_reducible exact H2_) | with_reducible exact H | (rw [hy09]; exact H) | exact H
     have Ny09 := am_ hy09
     clear hy09
     obtain ⟨y07, hy07⟩ : ∃ y_ : List Int, y_ = (([] : List Int)) := ⟨_, rfl⟩
     replace H : (if y07.length + l1_1.length < 17592186044416 then (spec_TurnSeen.l1 k2 l2 x8_2 0 l1_0 l1_1 y09 (y07 ++ l1_1)) else (none)) = some (r1, r2, r3) := by first | (rw [hy07]; with_reducible exact H) | (have H2_ := (Option.bind_some _ _).symm.trans H; rw [hy07]; with_reducible exact H2_) | (have H2_ := (Option.bind_some _ _).symm.trans H; with_reducible exact H2_) | with_reducible exact H | (rw [hy07]; exact H) | exact H
     have Ny07 := am_ hy07
     clear hy07
     by_cases c46 : y07.length + l1_1.length < 17592186044416
     ·rw [if_pos c46] at H
      have LMc46 := am_ c46
      clear c46
      obtain ⟨y05, hy05⟩ : ∃ y_ : List Int, y_ = (y07 ++ l1_1) := ⟨_, rfl⟩
      replace H : (spec_TurnSeen.l1 k2 l2 x8_2 0 l1_0 l1_1 y09 y05) = some (r1, r2, r3) := by first | (rw [hy05]; with_reducible exact H) | (have H2_ := (Option.bind_some _ _).symm.trans H; rw [hy05]; with_reducible exact H2_) | (have H2_ := (Option.bind_some _ _).symm.trans H; with_reducible exact H2_) | with_reducible exact H | (rw [hy05]; exact H) | exact H
      have Ny05 := am_ hy05
      clear hy05
      have H' := am_ H
      clear H
      have hnb47 := NB00_01.out
      have hnc47 := NB01_00.out
      have hnb48 := NB00_02.out
      have hnc48 := NB02_00.out
      have hcz49_0 := cf0 BK00.out
      have hfz49_0 := blk_frozen BK00.out 0
      go_wp2_with (first | ((with_reducible refine gate_dst (N := 49) rfl ?_); (try (refine gate_guard (by rfl) ?_; dsimp only)); refine Kd.R_lit (Kd.int .i64) _ 3 ?hg (N := 49) ?hd (xs := ([] : List Int)) (inner := []) (ok := fun _ => True) (okp := fun _ => True) ?hr ?hp (fun _ hk => hk) trivial (Below.refl _ _) (Nat.le_refl _) (by simp) ?_; (case hd => rfl); (case hg => rfl); (case hr => first | (go_simp; done) | (go_simp; rfl)); (case hp => exact (Reps.none _ _)); intro v008 w50 ho51 hb hg_ hnew_; clear hg_ hnew_; (first | rw [← Ny09.out] at ho51 | (simp only [Int.reduceToNat] at ho51; rw [← Ny09.out] at ho51)); have n0_ := am_ (Kd.R_elder' (ru HO_8.out) (Kd.R_base ho51) hb); have n1_ := am_ (Kd.R_lower (Kd.R_new' ho51 (Kd.R_lt (ru HO_8.out))) (below_size z60_8)); have n2_ := am_ (blk_below (bu BK00.out) hb); have n3_ := am_ (blk_below (bu BK01.out) hb); have n4_ := am_ (blk_below (bu BK02.out) hb); have n5_ := am_ (below_step z60_8 hb); clear HO_8 BK00 BK01 BK02 HB; have HO_8 := n0_; have HO94 := n1_; have BK00 := n2_; have BK01 := n3_; have BK02 := n4_; have HB := n5_; clear n0_ n1_ n2_ n3_ n4_ n5_; clear hb ho51) | ((with_reducible refine gate_dst (N := 50) rfl ?_); (try (refine gate_guard (by rfl) ?_; dsimp only)); refine Kd.R_lit (Kd.int .i64) _ 3 ?hg (N := 50) ?hd (xs := ([] : List Int)) (inner := []) (ok := fun _ => True) (okp := fun _ => True) ?hr ?hp (fun _ hk => hk) trivial (Below.refl _ _) (Nat.le_refl _) (by simp) ?_; (case hd => rfl); (case hg => rfl); (case hr => first | (go_simp; done) | (go_simp; rfl)); (case hp => exact (Reps.none _ _)); intro v012 w52 ho53 hb hg_ hnew_; clear hg_ hnew_; (first | rw [← Ny07.out] at ho53 | (simp only [Int.reduceToNat] at ho53; rw [← Ny07.out] at ho53)); have n0_ := am_ (Kd.R_elder' (ru HO_8.out) (Kd.R_base ho53) hb); have n1_ := am_ (Kd.R_elder' (ru HO94.out) (Kd.R_base ho53) hb); have n2_ := am_ (Kd.R_lower (Kd.R_new' (Kd.R_new' ho53 (Kd.R_lt (ru HO_8.out))) (Kd.R_lt (ru HO94.out))) (below_size z60_8)); have n3_ := am_ (blk_below (bu BK00.out) hb); have n4_ := am_ (blk_below (bu BK01.out) hb); have n5_ := am_ (blk_below (bu BK02.out) hb); have n6_ := am_ (below_step z60_8 hb); clear HO_8 HO94 BK00 BK01 BK02 HB; have HO_8 := n0_; have HO94 := n1_; have HO004 := n2_; have BK00 := n3_; have BK01 := n4_; have BK02 := n5_; have HB := n6_; clear n0_ n1_ n2_ n3_ n4_ n5_ n6_; clear hb ho53; have hnb54 := NB01_02.out; have hnc54 := NB02_01.out; have hcz55_0 := cf0 BK01.out; have hcz55_1 := cf1 BK01.out; have hfz55_0 := blk_frozen BK01.out 0; have hfz55_1 := blk_frozen BK01.out 1) | ((with_reducible refine gate_builtin (b := .append) (xs := #[.tmp 50, .tmp 52]) rfl ?_); (try (refine gate_guard (by rfl) ?_; dsimp only)); at_builtin; refine Kd.R_append_rows (Kd.int .i64) (w0 := w) w.heap.size rfl (.tmp 50) (.tmp 52) 22 3 (.int .i64 0) 8 rfl Try.underlying22 info3 rfl (by decide) (by omega) v012 y07 l1_1 _ _ _ (fun k_ => some k_ ≠ (u8 : Value).ownBlock ∧ some k_ ≠ (v008 : Value).ownBlock) (fun _ => False) rfl rfl ?aO ?aR (fun _ _ h => h) (fun _ h => h.elim) ?aF ?aB ?aS ?aL ?_; (case aR => repeat (first | exact (Kd.C_below HR1_1.out HB.out) | (with_reducible refine Kd.C_alloc ?_ _) | (with_reducible refine Kd.C_drewN ?_ _) | (with_reducible refine Kd.C_drew ?_))); (case aB => exact z60_8); (case aF => exact (fun k_ hk => ⟨Kd.fresh' (Kd.R_lt (ru HO_8.out)) k_ hk, Kd.fresh' (Kd.R_lt (ru HO94.out)) k_ hk⟩)); (case aO => exact (ru (Kd.R_mono HO004.out (fun _ hk => ⟨hk.1.2, hk.2⟩)))); (case aS => exact (below_size z60_8)); (case aL => have := LMc46.out; omega); intro v015 w56 ho hb hg hat; rw [← Ny05.out] at ho; replace HO_8 := am_ (Kd.R_after (ok := (fun k_ => some k_ ≠ (v008 : Value).ownBlock)) (ru (Kd.R_mono HO_8.out (fun _ hk => ⟨hk.1.2, hk.2⟩))) hg hat); replace BK00 := am_ (blk_grown (bu BK00.out) hg (Kd.R_ne HO004.out BK00.out (by decide))); replace BK01 := am_ (blk_grown (bu BK01.out) hg (Kd.R_ne HO004.out BK01.out (by decide))); replace BK02 := am_ (blk_grown (bu BK02.out) hg (Kd.R_ne HO004.out BK02.out (by decide))); replace HO94 := am_ (Kd.R_after (ok := (fun k_ => some k_ ≠ (u8 : Value).ownBlock)) (ru (Kd.R_mono HO94.out (fun _ hk => ⟨hk.1.2, hk.2⟩))) hg hat); replace HB := am_ (hb); have HO005 := am_ (ho); clear HO004; clear ho hb hg hat; obtain ⟨Ao57, co57, eo57⟩ := Kd.R_slice HO005.out; subst eo57; obtain ⟨Ao58, co58, eo58⟩ := Kd.R_slice HO94.out; subst eo58) | ((with_reducible refine gate_dst (N := 10) rfl ?_); (try (refine gate_guard (by rfl) ?_; dsimp only)); refine box_event ?hg (N := 10) ?hd (cs := #[.slice none 0 0, .slice none 0 0]) (t := 24) ?hr ?_; (case hd => rfl); (case hg => rfl); (case hr => first | (go_simp; done) | (go_simp; rfl)); intro gb03 hg w59 hbox hb; have n0_ := am_ (Kd.R_below (ru HO_8.out) hb); have n1_ := am_ (Kd.R_below (ru HO94.out) hb); have n2_ := am_ (Kd.R_below (ru HO005.out) hb); have n3_ := am_ (blk_below (bu BK00.out) hb); have n4_ := am_ (blk_below (bu BK01.out) hb); have n5_ := am_ (blk_below (bu BK02.out) hb); have n6_ := am_ (below_step z60_8 hb); have n7_ := am_ (hbox); have n8_ := am_ (by rw [hg]; exact (below_size z60_8) : w.heap.size ≤ gb03); have n9_ := am_ (by rw [hg]; exact (below_size z60_8) : w.heap.size ≤ gb03); have n10_ := am_ (by rw [hg]; exact Nat.ne_of_lt (blk_lt (bu BK00.out)) : gb00 ≠ gb03); have n11_ := am_ (by rw [hg]; exact Nat.ne_of_gt (blk_lt (bu BK00.out)) : gb03 ≠ gb00); have n12_ := am_ (by rw [hg]; exact Nat.ne_of_lt (blk_lt (bu BK01.out)) : gb01 ≠ gb03); have n13_ := am_ (by rw [hg]; exact Nat.ne_of_gt (blk_lt (bu BK01.out)) : gb03 ≠ gb01); have n14_ := am_ (by rw [hg]; exact Nat.ne_of_lt (blk_lt (bu BK02.out)) : gb02 ≠ gb03); have n15_ := am_ (by rw [hg]; exact Nat.ne_of_gt (blk_lt (bu BK02.out)) : gb03 ≠ gb02); clear HO_8 HO94 HO005 BK00 BK01 BK02 HB; have HO_8 := n0_; have HO94 := n1_; have HO005 := n2_; have BK00 := n3_; have BK01 := n4_; have BK02 := n5_; have HB := n6_; have BK03 := n7_; have GW03 := n8_; have GE03 := n9_; have NB00_03 := n10_; have NB03_00 := n11_; have NB01_03 := n12_; have NB03_01 := n13_; have NB02_03 := n14_; have NB03_02 := n15_; clear n0_ n1_ n2_ n3_ n4_ n5_ n6_ n7_ n8_ n9_ n10_ n11_ n12_ n13_ n14_ n15_; clear hb hbox hg; have hnb60 := NB03_00.out; have hnc60 := NB00_03.out; have hnb61 := NB03_01.out; have hnc61 := NB01_03.out; have hnb62 := NB03_02.out; have hnc62 := NB02_03.out; have hcz63_0 := cf0 BK03.out; have hcz63_1 := cf1 BK03.out; have hfz63_0 := blk_frozen BK03.out 0; have hfz63_1 := blk_frozen BK03.out 1))
      go_loopg [11] k2 (fun kq v11 w' => ∃ (x11_3 : Int) (x04_3 : List Int) (u04 : Value), v11 = .int .i64 x11_3 ∧ Aside0 (spec_TurnSeen.l1 kq l2 x8_2 x11_3 l1_0 l1_1 x04_3 y05 = some (r1, r2, r3)) ∧ Aside0 (kq ≤ k2) ∧ Aside0 (Kd.R (Kd.int .i64) 3 w' w.heap.size (fun k_ => some k_ ≠ (u04 : Value).ownBlock ∧ some k_ ≠ ((.slice Ao57 y05.length co57) : Value).ownBlock) u8 x8_2) ∧ Aside0 (Kd.R (Kd.int .i64) 3 w' w.heap.size (fun k_ => some k_ ≠ (u8 : Value).ownBlock ∧ some k_ ≠ ((.slice Ao57 y05.length co57) : Value).ownBlock) u04 x04_3) ∧ Aside0 (Kd.R (Kd.int .i64) 3 w' w.heap.size (fun k_ => some k_ ≠ (u8 : Value).ownBlock ∧ some k_ ≠ (u04 : Value).ownBlock) (.slice Ao57 y05.length co57) y05) ∧ Aside0 (w'.heap[gb00]? = some (.cells #[(.slice A0_0 l0_0.length c0_0)] 35 (0, 0))) ∧ Aside0 (w'.heap[gb01]? = some (.cells #[(.slice A1_0 l1_0.length c1_0), (.slice A1_1 l1_1.length c1_1)] 24 (0, 0))) ∧ Aside0 (w'.heap[gb02]? = some (.cells #[(.slice none 0 0), (.slice none 0 0)] 24 (0, 0))) ∧ Aside0 (w'.heap[gb03]? = some (.cells #[u04, (.slice Ao57 y05.length co57)] 24 (0, 0))) ∧ Aside0 (Below w.heap.size w w'))
      case atStart => exact ⟨(0), (y09), (.slice Ao58 y09.length co58), z60_1, H', ⟨Nat.le_refl _⟩, ⟨ru (Kd.R_mono (Kd.R_far (p := ⟨gb03, 1, none⟩) (Kd.R_far (p := ⟨gb03, 0, none⟩) (Kd.R_types HO_8.out BK03.out (by decide)) (fun _ hk => hk.2) (.slice Ao58 y09.length co58)) (fun _ hk => hk.2) (.slice Ao57 y05.length co57)) (fun _ hk => ⟨hk.1.1, hk.1.2⟩))⟩, ⟨ru (Kd.R_mono (Kd.R_far (p := ⟨gb03, 1, none⟩) (Kd.R_far (p := ⟨gb03, 0, none⟩) (Kd.R_types HO94.out BK03.out (by decide)) (fun _ hk => hk.2) (.slice Ao58 y09.length co58)) (fun _ hk => hk.2) (.slice Ao57 y05.length co57)) (fun _ hk => ⟨hk.1.1, hk.1.2⟩))⟩, ⟨ru (Kd.R_mono (Kd.R_far (p := ⟨gb03, 1, none⟩) (Kd.R_far (p := ⟨gb03, 0, none⟩) (Kd.R_types HO005.out BK03.out (by decide)) (fun _ hk => hk.2) (.slice Ao58 y09.length co58)) (fun _ hk => hk.2) (.slice Ao57 y05.length co57)) (fun _ hk => ⟨hk.1.1, hk.1.2⟩))⟩, ⟨by (with_reducible repeat (first | refine blk_drewN ?_ _ | refine blk_drew ?_ | refine blk_alloc ?_ _)); refine blk_far ?_ NB00_03.out _; (with_reducible repeat (first | refine blk_drewN ?_ _ | refine blk_drew ?_ | refine blk_alloc ?_ _)); refine blk_far ?_ NB00_03.out _; (with_reducible repeat (first | refine blk_drewN ?_ _ | refine blk_drew ?_ | refine blk_alloc ?_ _)); exact BK00.out⟩, ⟨by (with_reducible repeat (first | refine blk_drewN ?_ _ | refine blk_drew ?_ | refine blk_alloc ?_ _)); refine blk_far ?_ NB01_03.out _; (with_reducible repeat (first | refine blk_drewN ?_ _ | refine blk_drew ?_ | refine blk_alloc ?_ _)); refine blk_far ?_ NB01_03.out _; (with_reducible repeat (first | refine blk_drewN ?_ _ | refine blk_drew ?_ | refine blk_alloc ?_ _)); exact BK01.out⟩, ⟨by (with_reducible repeat (first | refine blk_drewN ?_ _ | refine blk_drew ?_ | refine blk_alloc ?_ _)); refine blk_far ?_ NB02_03.out _; (with_reducible repeat (first | refine blk_drewN ?_ _ | refine blk_drew ?_ | refine blk_alloc ?_ _)); refine blk_far ?_ NB02_03.out _; (with_reducible repeat (first | refine blk_drewN ?_ _ | refine blk_drew ?_ | refine blk_alloc ?_ _)); exact BK02.out⟩, ⟨by (with_reducible repeat (first | refine blk_drewN ?_ _ | refine blk_drew ?_ | refine blk_alloc ?_ _)); refine blk_put (cs := #[.slice Ao58 y09.length co58, .slice none 0 0]) ?_ 1 _ rfl; (with_reducible repeat (first | refine blk_drewN ?_ _ | refine blk_drew ?_ | refine blk_alloc ?_ _)); refine blk_put (cs := #[.slice none 0 0, .slice none 0 0]) ?_ 0 _ rfl; (with_reducible repeat (first | refine blk_drewN ?_ _ | refine blk_drew ?_ | refine blk_alloc ?_ _)); exact BK03.out⟩, ⟨z60_9⟩⟩
      case round =>
       clear H'
       obtain ⟨x11_3, x04_3, u04, rfl, HA, HK3, HO_8, HO_04, HO_95, BK00, BK01, BK02, BK03, HB⟩ := hrel
       cases gk with
       | zero => exact absurd HA.out (by simp [spec_TurnSeen.l1])
       | succ k3 =>
        have H := HA.out
        clear HA
        simp only [spec_TurnSeen.l1] at H
        by_cases c64 : x11_3 < (l2.length : Int)
        ·rw [if_pos c64] at H
         have c64b0 : decide (x11_3 < (l2.length : Int)) = true := decide_eq_true c64
         clear c64
         by_cases c65 : 0 ≤ x11_3
         ·rw [if_pos c65] at H
          have c65b0 : decide (0 ≤ x11_3) = true := decide_eq_true c65
          clear c65
          by_cases c66 : 0 ≤ (rd l2 x11_3)
          ·rw [if_pos c66] at H
           have c66b0 : decide (0 ≤ (rd l2 x11_3)) = true := decide_eq_true c66
           clear c66
           by_cases c67 : (rd l2 x11_3) < (x8_2.length : Int)
           ·rw [if_pos c67] at H
            have c67b0 : decide ((rd l2 x11_3) < (x8_2.length : Int)) = true := decide_eq_true c67
            clear c67
            obtain ⟨ji68, hji68⟩ : ∃ j_ : Int, (wrap64 ((rd l2 x11_3) + 1)) = j_ := ⟨_, rfl⟩
            replace H : (if 0 ≤ (ji68) then (if (ji68) < (x8_2.length : Int) then (if 0 ≤ (rd x8_2 (rd l2 x11_3)) then (if (rd x8_2 (rd l2 x11_3)) ≤ (rd x8_2 (ji68)) then (if (rd x8_2 (ji68)) ≤ (l1_0.length : Int) then (if x04_3.length + ((l1_0.take ((rd x8_2 (ji68)) : Int).toNat).drop ((rd x8_2 (rd l2 x11_3)) : Int).toNat).length < 17592186044416 then (spec_TurnSeen.l1 k3 l2 x8_2 (wrap64 (x11_3 + 1)) l1_0 l1_1 (x04_3 ++ ((l1_0.take ((rd x8_2 (ji68)) : Int).toNat).drop ((rd x8_2 (rd l2 x11_3)) : Int).toNat)) y05) else (none)) else (none)) else (none)) else (none)) else (none)) else (none)) = some (r1, r2, r3) := by first | (rw [hji68] at H; exact H) | (simp only [hji68] at H ⊢; exact H)
            have hji68w : (IntKind.i64.wrap ((rd l2 x11_3) + 1)) = ji68 := (i64_w _).trans hji68
            by_cases c69 : 0 ≤ (ji68)
            ·rw [if_pos c69] at H
             have c69b0 : decide (0 ≤ (ji68)) = true := decide_eq_true c69
             clear c69
             by_cases c70 : (ji68) < (x8_2.length : Int)
             ·rw [if_pos c70] at H
              have c70b0 : decide ((ji68) < (x8_2.length : Int)) = true := decide_eq_true c70
              clear c70
              by_cases c71 : 0 ≤ (rd x8_2 (rd l2 x11_3))
              ·rw [if_pos c71] at H
               have c71b0 := eq_true c71
               have c71b1 : decide (0 ≤ (rd x8_2 (rd l2 x11_3))) = true := decide_eq_true c71
               clear c71
               by_cases c72 : (rd x8_2 (rd l2 x11_3)) ≤ (rd x8_2 (ji68))
               ·rw [if_pos c72] at H
                have c72b0 := eq_true c72
                have c72b1 : decide ((rd x8_2 (rd l2 x11_3)) ≤ (rd x8_2 (ji68))) = true := decide_eq_true c72
                clear c72
                by_cases c73 : (rd x8_2 (ji68)) ≤ (l1_0.length : Int)
                ·rw [if_pos c73] at H
                 have c73b0 := eq_true c73
                 have c73b1 : decide ((rd x8_2 (ji68)) ≤ (l1_0.length : Int)) = true := decide_eq_true c73
                 clear c73
                 by_cases c74 : x04_3.length + ((l1_0.take ((rd x8_2 (ji68)) : Int).toNat).drop ((rd x8_2 (rd l2 x11_3)) : Int).toNat).length < 17592186044416
                 ·rw [if_pos c74] at H
                  have LMc74 := am_ c74
                  clear c74
                  obtain ⟨y92, hy92⟩ : ∃ y_ : List Int, y_ = (x04_3 ++ ((l1_0.take ((rd x8_2 (ji68)) : Int).toNat).drop ((rd x8_2 (rd l2 x11_3)) : Int).toNat)) := ⟨_, rfl⟩
                  replace H : (spec_TurnSeen.l1 k3 l2 x8_2 (wrap64 (x11_3 + 1)) l1_0 l1_1 y92 y05) = some (r1, r2, r3) := by first | (rw [hy92]; with_reducible exact H) | (have H2_ := (Option.bind_some _ _).symm.trans H; rw [hy92]; with_reducible exact H2_) | (have H2_ := (Option.bind_some _ _).symm.trans H; with_reducible exact H2_) | with_reducible exact H | (rw [hy92]; exact H) | exact H
                  have Ny92 := am_ hy92
                  clear hy92
                  have H' := am_ H
                  clear H
                  try go_wp2
                  replace HO_8 := am_ (Kd.R_drew HO_8.out)
                  replace HO_04 := am_ (Kd.R_drew HO_04.out)
                  replace HO_95 := am_ (Kd.R_drew HO_95.out)
                  replace BK00 := am_ (blk_drew BK00.out)
                  replace BK01 := am_ (blk_drew BK01.out)
                  replace BK02 := am_ (blk_drew BK02.out)
                  replace BK03 := am_ (blk_drew BK03.out)
                  replace HB := am_ (below_drew1 HB.out)
                  have p06 : 0 ≤ (x11_3 : Int) := of_decide_eq_true z60_2
                  have q06 : x11_3 < (l2.length : Int) := of_decide_eq_true z60_2
                  obtain ⟨ad06, e06, hx06_0⟩ := Kd.at_int HR2.out x11_3 p06 q06
                  have hw06_0 := hx06_0
                  cases e06
                  replace hx06_0 := (HB.out.cell (World.block_lt_of_cell? w _ hx06_0)).trans hx06_0
                  replace p06 := eq_true p06
                  replace q06 := eq_true q06
                  obtain ⟨Ao76, co76, eo76⟩ := Kd.R_slice HO_8.out
                  (first | subst eo76 | (injection eo76 with f1_ f2_ f3_; have f4_ := f1_.symm; have f5_ := f3_.symm; clear f1_ f2_ f3_; subst f4_; subst f5_))
                  have p89 : 0 ≤ ((rd l2 x11_3) : Int) := of_decide_eq_true z60_2
                  have q89 : (rd l2 x11_3) < (x8_2.length : Int) := of_decide_eq_true z60_2
                  obtain ⟨ad89, e89, hx89_0⟩ := Kd.at_int (Kd.R_reads' HO_8.out).2.2 (rd l2 x11_3) p89 q89
                  cases e89
                  replace p89 := eq_true p89
                  replace q89 := eq_true q89
                  have p08 : 0 ≤ (x11_3 : Int) := of_decide_eq_true z60_2
                  have q08 : x11_3 < (l2.length : Int) := of_decide_eq_true z60_2
                  obtain ⟨ad08, e08, hx08_0⟩ := Kd.at_int HR2.out x11_3 p08 q08
                  have hw08_0 := hx08_0
                  obtain rfl : ad06 = ad08 := (by injection e08)
                  replace hx08_0 := (HB.out.cell (World.block_lt_of_cell? w _ hx08_0)).trans hx08_0
                  replace p08 := eq_true p08
                  replace q08 := eq_true q08
                  have p93 : 0 ≤ ((ji68) : Int) := of_decide_eq_true z60_2
                  have q93 : (ji68) < (x8_2.length : Int) := of_decide_eq_true z60_2
                  obtain ⟨ad93, e93, hx93_0⟩ := Kd.at_int (Kd.R_reads' HO_8.out).2.2 (ji68) p93 q93
                  obtain rfl : ad89 = ad93 := (by injection e93)
                  replace p93 := eq_true p93
                  replace q93 := eq_true q93
                  obtain ⟨i077, hi077, _, hsz77, _⟩ := info_parts info3
                  obtain ⟨A77, hcut77, hA77, hC77⟩ := print_mid_of (P := Try.prog) (Value.int .i64) 0 22 3 .i64 .i64 Try.underlying22 hi077 hsz77 A1_0 c1_0 l1_0 (rd x8_2 (rd l2 x11_3)) (rd x8_2 (ji68)) (of_decide_eq_true z60_2) (by first | omega | exact of_decide_eq_true z60_2) (of_decide_eq_true z60_2) HC1_0.out
                  have HR007 := am_ (Kd.C_of_reads (h1 := fun _ => rfl) (hA77 _ (Kd.reads_of_C HR1_0.out)))
                  have HC007 := am_ hC77
                  clear hA77 hC77 hi077 hsz77
                  refine start_ (n := 23) (S := fun w' => w'.cell? ⟨gb03, 0, none⟩ = some (u04) ∧ w'.cell? ⟨gb03, 1, none⟩ = some (.slice Ao57 y05.length co57) ∧ w'.cell? ⟨gb01, 0, none⟩ = some (.slice A1_0 l1_0.length c1_0) ∧ w'.cell? ⟨gb01, 1, none⟩ = some (.slice A1_1 l1_1.length c1_1) ∧ w'.cell? (ad06.add (x11_3).toNat) = some (.int .i64 (rd l2 x11_3)) ∧ w'.cell? (ad89.add ((rd l2 x11_3)).toNat) = some (.int .i64 (rd x8_2 (rd l2 x11_3))) ∧ w'.cell? (ad06.add (x11_3).toNat) = some (.int .i64 (rd l2 x11_3)) ∧ w'.cell? (ad89.add ((ji68)).toNat) = some (.int .i64 (rd x8_2 (ji68)))) (ds := [20, 22]) #[false, false, false, false, false, false, false, false, false, false, false, false, false, false, false, false, false, false, false, false, false, false, false] (by kernel_rfl) rfl rfl ⟨(blk_cell BK03.out 0).trans rfl, (blk_cell BK03.out 1).trans rfl, (blk_cell BK01.out 0).trans rfl, (blk_cell BK01.out 1).trans rfl, ((HB.out.cell (World.block_lt_of_cell? w _ hw06_0)).trans hw06_0), hx89_0, ((HB.out.cell (World.block_lt_of_cell? w _ hw08_0)).trans hw08_0), hx93_0⟩ (fun hHeld => ?_); refine with_tabW spec_TurnSeen.tab12 spec_TurnSeen.bits12 (fun HT_ HW_ => ?_)
                  generalize wr.drew = w75 at HO_8 HO_04 HO_95 BK00 BK01 BK02 BK03 HB HR007 hx06_0 hx89_0 hx08_0 hx93_0 hHeld ⊢
                  refine pure_ (i := 0) (N := some 61) (v := ?_) (a' := ?_) #[true, false, false, false, false, false, false, false, false, false, false, false, false, false, false, false, false, false, false, false, false, false, false] rfl rfl (any_of HT_.out (by kernel_rfl)) (fun _ _ _ h => h) (Or.inl ⟨by rfl, ?_⟩) ?_ ?_
                  rotate_left
                  ·intro w'
                   go_simp
                   with_reducible rfl
                  rotate_left
                  ·simp only [Act.put, List.setIfInBounds_toArray, List.set_cons_zero, List.set_cons_succ, i64_w, i32_w]
                   rfl
                  refine pure_ (i := 2) (N := some 63) (v := ?_) (a' := ?_) #[true, false, true, false, false, false, false, false, false, false, false, false, false, false, false, false, false, false, false, false, false, false, false] rfl rfl (any_of HT_.out (by kernel_rfl)) (fun _ _ _ h => h) (Or.inl ⟨by rfl, ?_⟩) ?_ ?_
                  rotate_left
                  ·intro w'
                   go_simp
                   with_reducible rfl
                  rotate_left
                  ·simp only [Act.put, List.setIfInBounds_toArray, List.set_cons_zero, List.set_cons_succ, i64_w, i32_w]
                   rfl
                  refine pure_ (i := 4) (N := some 65) (v := ?_) (a' := ?_) #[true, false, true, false, true, false, false, false, false, false, false, false, false, false, false, false, false, false, false, false, false, false, false] rfl rfl (any_of HT_.out (by kernel_rfl)) (fun _ _ _ h => h) (Or.inl ⟨by rfl, ?_⟩) ?_ ?_
                  rotate_left
                  ·intro w'
                   go_simp
                   with_reducible rfl
                  rotate_left
                  ·simp only [Act.put, List.setIfInBounds_toArray, List.set_cons_zero, List.set_cons_succ, i64_w, i32_w]
                   rfl
                  refine pure_ (i := 5) (N := some 66) (v := ?_) (a' := ?_) #[true, false, true, false, true, true, false, false, false, false, false, false, false, false, false, false, false, false, false, false, false, false, false] rfl rfl (any_of HT_.out (by kernel_rfl)) (fun _ _ _ h => h) (Or.inl ⟨by rfl, ?_⟩) ?_ ?_
                  rotate_left
                  ·intro w'
                   go_simp
                   with_reducible rfl
                  rotate_left
                  ·simp only [Act.put, List.setIfInBounds_toArray, List.set_cons_zero, List.set_cons_succ, i64_w, i32_w]
                   rfl
                  refine pure_ (i := 6) (N := some 67) (v := ?_) (a' := ?_) #[true, false, true, false, true, true, true, false, false, false, false, false, false, false, false, false, false, false, false, false, false, false, false] rfl rfl (any_of HT_.out (by kernel_rfl)) (fun _ _ _ h => h) (Or.inl ⟨by rfl, ?_⟩) ?_ ?_
                  rotate_left
                  ·intro w'
                   go_simp
                   with_reducible rfl
                  rotate_left
                  ·simp only [Act.put, List.setIfInBounds_toArray, List.set_cons_zero, List.set_cons_succ, i64_w, i32_w]
                   rfl
                  refine pure_ (i := 7) (N := some 68) (v := ?_) (a' := ?_) #[true, false, true, false, true, true, true, true, false, false, false, false, false, false, false, false, false, false, false, false, false, false, false] rfl rfl (any_of HT_.out (by kernel_rfl)) (fun _ _ _ h => h) (Or.inl ⟨by rfl, ?_⟩) ?_ ?_
                  rotate_left
                  ·intro w'
                   go_simp
                   with_reducible rfl
                  rotate_left
                  ·simp only [Act.put, List.setIfInBounds_toArray, List.set_cons_zero, List.set_cons_succ, i64_w, i32_w]
                   rfl
                  refine pure_ (i := 11) (N := some 72) (v := ?_) (a' := ?_) #[true, false, true, false, true, true, true, true, false, false, false, true, false, false, false, false, false, false, false, false, false, false, false] rfl rfl (any_of HT_.out (by kernel_rfl)) (fun _ _ _ h => h) (Or.inl ⟨by rfl, ?_⟩) ?_ ?_
                  rotate_left
                  ·intro w'
                   go_simp
                   with_reducible rfl
                  rotate_left
                  ·simp only [Act.put, List.setIfInBounds_toArray, List.set_cons_zero, List.set_cons_succ, i64_w, i32_w]
                   rfl
                  refine pure_ (i := 12) (N := some 73) (v := ?_) (a' := ?_) #[true, false, true, false, true, true, true, true, false, false, false, true, true, false, false, false, false, false, false, false, false, false, false] rfl rfl (any_of HT_.out (by kernel_rfl)) (fun _ _ _ h => h) (Or.inl ⟨by rfl, ?_⟩) ?_ ?_
                  rotate_left
                  ·intro w'
                   go_simp
                   with_reducible rfl
                  rotate_left
                  ·simp only [Act.put, List.setIfInBounds_toArray, List.set_cons_zero, List.set_cons_succ, i64_w, i32_w]
                   rfl
                  refine pure_ (i := 13) (N := some 74) (v := ?_) (a' := ?_) #[true, false, true, false, true, true, true, true, false, false, false, true, true, true, false, false, false, false, false, false, false, false, false] rfl rfl (any_of HT_.out (by kernel_rfl)) (fun _ _ _ h => h) (Or.inl ⟨by rfl, ?_⟩) ?_ ?_
                  rotate_left
                  ·intro w'
                   go_simp
                   with_reducible rfl
                  rotate_left
                  ·simp only [Act.put, List.setIfInBounds_toArray, List.set_cons_zero, List.set_cons_succ, i64_w, i32_w]
                   rfl
                  refine pure_ (i := 14) (N := some 75) (v := ?_) (a' := ?_) #[true, false, true, false, true, true, true, true, false, false, false, true, true, true, true, false, false, false, false, false, false, false, false] rfl rfl (any_of HT_.out (by kernel_rfl)) (fun _ _ _ h => h) (Or.inl ⟨by rfl, ?_⟩) ?_ ?_
                  rotate_left
                  ·intro w'
                   go_simp
                   with_reducible rfl
                  rotate_left
                  ·simp only [Act.put, List.setIfInBounds_toArray, List.set_cons_zero, List.set_cons_succ, i64_w, i32_w]
                   rfl
                  refine take_ (i := 1) (N := some 62) (v := ?_) (a' := ?_) #[true, true, true, false, true, true, true, true, false, false, false, true, true, true, true, false, false, false, false, false, false, false, false] rfl rfl (take_ofW HT_.out HW_.out (by kernel_rfl)) (fun _ _ _ h => h) (Or.inl ⟨by rfl, ?_⟩) hHeld ?_ ?_
                  rotate_left
                  ·rintro w' ⟨s0, s1, s2, s3, s4, s5, s6, s7⟩
                   go_simp
                   with_reducible rfl
                  rotate_left
                  ·simp only [Act.put, List.setIfInBounds_toArray, List.set_cons_zero, List.set_cons_succ, i64_w, i32_w]
                   rfl
                  refine take_ (i := 3) (N := some 64) (v := ?_) (a' := ?_) #[true, true, true, true, true, true, true, true, false, false, false, true, true, true, true, false, false, false, false, false, false, false, false] rfl rfl (take_ofW HT_.out HW_.out (by kernel_rfl)) (fun _ _ _ h => h) (Or.inl ⟨by rfl, ?_⟩) hHeld ?_ ?_
                  rotate_left
                  ·rintro w' ⟨s0, s1, s2, s3, s4, s5, s6, s7⟩
                   go_simp
                   with_reducible rfl
                  rotate_left
                  ·simp only [Act.put, List.setIfInBounds_toArray, List.set_cons_zero, List.set_cons_succ, i64_w, i32_w]
                   rfl
                  refine take_ (i := 8) (N := some 69) (v := ?_) (a' := ?_) #[true, true, true, true, true, true, true, true, true, false, false, true, true, true, true, false, false, false, false, false, false, false, false] rfl rfl (take_ofW HT_.out HW_.out (by kernel_rfl)) (fun _ _ _ h => h) (Or.inl ⟨by rfl, ?_⟩) hHeld ?_ ?_
                  rotate_left
                  ·rintro w' ⟨s0, s1, s2, s3, s4, s5, s6, s7⟩
                   go_simp
                   with_reducible rfl
                  rotate_left
                  ·simp only [Act.put, List.setIfInBounds_toArray, List.set_cons_zero, List.set_cons_succ, i64_w, i32_w]
                   rfl
                  refine pure_ (i := 9) (N := some 70) (v := ?_) (a' := ?_) #[true, true, true, true, true, true, true, true, true, true, false, true, true, true, true, false, false, false, false, false, false, false, false] rfl rfl (any_of HT_.out (by kernel_rfl)) (fun _ _ _ h => h) (Or.inl ⟨by rfl, ?_⟩) ?_ ?_
                  rotate_left
                  ·intro w'
                   go_simp
                   with_reducible rfl
                  rotate_left
                  ·simp only [Act.put, List.setIfInBounds_toArray, List.set_cons_zero, List.set_cons_succ, i64_w, i32_w]
                   rfl
                  refine take_ (i := 10) (N := some 71) (v := ?_) (a' := ?_) #[true, true, true, true, true, true, true, true, true, true, true, true, true, true, true, false, false, false, false, false, false, false, false] rfl rfl (take_ofW HT_.out HW_.out (by kernel_rfl)) (fun _ _ _ h => h) (Or.inl ⟨by rfl, ?_⟩) hHeld ?_ ?_
                  rotate_left
                  ·rintro w' ⟨s0, s1, s2, s3, s4, s5, s6, s7⟩
                   go_simp
                   with_reducible rfl
                  rotate_left
                  ·simp only [Act.put, List.setIfInBounds_toArray, List.set_cons_zero, List.set_cons_succ, i64_w, i32_w]
                   rfl
                  refine take_ (i := 15) (N := some 76) (v := ?_) (a' := ?_) #[true, true, true, true, true, true, true, true, true, true, true, true, true, true, true, true, false, false, false, false, false, false, false] rfl rfl (take_ofW HT_.out HW_.out (by kernel_rfl)) (fun _ _ _ h => h) (Or.inl ⟨by rfl, ?_⟩) hHeld ?_ ?_
                  rotate_left
                  ·rintro w' ⟨s0, s1, s2, s3, s4, s5, s6, s7⟩
                   go_simp
                   with_reducible rfl
                  rotate_left
                  ·simp only [Act.put, List.setIfInBounds_toArray, List.set_cons_zero, List.set_cons_succ, i64_w, i32_w]
                   rfl
                  refine pure_ (i := 16) (N := some 77) (v := ?_) (a' := ?_) #[true, true, true, true, true, true, true, true, true, true, true, true, true, true, true, true, true, false, false, false, false, false, false] rfl rfl (any_of HT_.out (by kernel_rfl)) (fun _ _ _ h => h) (Or.inl ⟨by rfl, ?_⟩) ?_ ?_
                  rotate_left
                  ·intro w'
                   go_simp
                   with_reducible rfl
                  rotate_left
                  ·simp only [Act.put, List.setIfInBounds_toArray, List.set_cons_zero, List.set_cons_succ, i64_w, i32_w]
                   rfl
                  refine pure_ (i := 17) (N := some 78) (v := ?_) (a' := ?_) #[true, true, true, true, true, true, true, true, true, true, true, true, true, true, true, true, true, true, false, false, false, false, false] rfl rfl (any_of HT_.out (by kernel_rfl)) (fun _ _ _ h => h) (Or.inl ⟨by rfl, ?_⟩) ?_ ?_
                  rotate_left
                  ·intro w'
                   go_simp
                   with_reducible rfl
                  rotate_left
                  ·simp only [Act.put, List.setIfInBounds_toArray, List.set_cons_zero, List.set_cons_succ, i64_w, i32_w]
                   rfl
                  refine take_ (i := 18) (N := some 79) (v := ?_) (a' := ?_) #[true, true, true, true, true, true, true, true, true, true, true, true, true, true, true, true, true, true, true, false, false, false, false] rfl rfl (take_ofW HT_.out HW_.out (by kernel_rfl)) (fun _ _ _ h => h) (Or.inl ⟨by rfl, ?_⟩) hHeld ?_ ?_
                  rotate_left
                  ·rintro w' ⟨s0, s1, s2, s3, s4, s5, s6, s7⟩
                   go_simp
                   with_reducible rfl
                  rotate_left
                  ·simp only [Act.put, List.setIfInBounds_toArray, List.set_cons_zero, List.set_cons_succ, i64_w, i32_w]
                   rfl
                  refine pure_ (i := 19) (N := some 80) (v := ?_) (a' := ?_) #[true, true, true, true, true, true, true, true, true, true, true, true, true, true, true, true, true, true, true, true, false, false, false] rfl rfl (any_of HT_.out (by kernel_rfl)) (fun _ _ _ h => h) (Or.inl ⟨by rfl, ?_⟩) ?_ ?_
                  rotate_left
                  ·intro w'
                   go_simp
                   with_reducible rfl
                  rotate_left
                  ·simp only [Act.put, List.setIfInBounds_toArray, List.set_cons_zero, List.set_cons_succ, i64_w, i32_w]
                   rfl
                  refine last_ (i := 20) (N := some 81) #[true, true, true, true, true, true, true, true, true, true, true, true, true, true, true, true, true, true, true, true, true, false, false] rfl rfl (one_of HT_.out (by kernel_rfl)) (by decide) (fun K hK => ?_)
                  refine Kd.R_append_rows_step (Kd.int .i64) (w0 := w) w.heap.size (by rfl) (.tmp 62) (.tmp 80) 22 3 (.int .i64 0) 8 rfl Try.underlying22 info3 rfl (by decide) (by omega) u04 x04_3 ((l1_0.take ((rd x8_2 (ji68)) : Int).toNat).drop ((rd x8_2 (rd l2 x11_3)) : Int).toNat) _ _ _ (fun k_ => some k_ ≠ (.slice (some ad89) x8_2.length co76 : Value).ownBlock ∧ some k_ ≠ (.slice Ao57 y05.length co57 : Value).ownBlock) (fun _ => False) rfl rfl ?aO ?aR (fun _ _ h => h) (fun _ h => h.elim) ?aF ?aB ?aS ?aL ?_
                  (case aR => first | (rw [← show ((l1_0.take ((rd x8_2 (ji68)) : Int).toNat).drop ((rd x8_2 (rd l2 x11_3)) : Int).toNat).length = ((rd x8_2 (ji68)).toNat - (rd x8_2 (rd l2 x11_3)).toNat) from (by rw [List.length_drop, List.length_take]; have h_ : ((rd x8_2 (ji68)) : Int) ≤ (l1_0.length : Int) := of_decide_eq_true z60_2; omega)]; repeat (first | exact (Kd.C_below HR007.out HB.out) | (with_reducible refine Kd.C_alloc ?_ _) | (with_reducible refine Kd.C_drewN ?_ _) | (with_reducible refine Kd.C_drew ?_))) | (repeat (first | exact (Kd.C_below HR007.out HB.out) | (with_reducible refine Kd.C_alloc ?_ _) | (with_reducible refine Kd.C_drewN ?_ _) | (with_reducible refine Kd.C_drew ?_))))
                  (case aB => exact z60_9)
                  (case aF => exact (fun k_ hk => ⟨Kd.fresh' (Kd.R_lt (ru HO_8.out)) k_ hk, Kd.fresh' (Kd.R_lt (ru HO_95.out)) k_ hk⟩))
                  (case aO => exact (ru HO_04.out))
                  (case aS => exact (below_size z60_9))
                  (case aL => have := LMc74.out; have hlx_ := (show ((l1_0.take ((rd x8_2 (ji68)) : Int).toNat).drop ((rd x8_2 (rd l2 x11_3)) : Int).toNat).length = ((rd x8_2 (ji68)).toNat - (rd x8_2 (rd l2 x11_3)).toNat) from (by rw [List.length_drop, List.length_take]; have h_ : ((rd x8_2 (ji68)) : Int) ≤ (l1_0.length : Int) := of_decide_eq_true z60_2; omega)); omega)
                  intro v016 w78 ho hb hg hat
                  rw [← Ny92.out] at ho
                  replace HO_8 := am_ (Kd.R_after (ok := (fun k_ => some k_ ≠ (.slice Ao57 y05.length co57 : Value).ownBlock)) (ru (Kd.R_mono HO_8.out (fun _ hk => ⟨hk.2, hk.1⟩))) hg hat)
                  replace HO_95 := am_ (Kd.R_after (ok := (fun k_ => some k_ ≠ (.slice (some ad89) x8_2.length co76 : Value).ownBlock)) (ru HO_95.out) hg hat)
                  replace BK00 := am_ (blk_grown (bu BK00.out) hg (Kd.R_ne HO_04.out BK00.out (by decide)))
                  replace BK01 := am_ (blk_grown (bu BK01.out) hg (Kd.R_ne HO_04.out BK01.out (by decide)))
                  replace BK02 := am_ (blk_grown (bu BK02.out) hg (Kd.R_ne HO_04.out BK02.out (by decide)))
                  replace BK03 := am_ (blk_grown (bu BK03.out) hg (Kd.R_ne HO_04.out BK03.out (by decide)))
                  replace HB := am_ (hb)
                  have HO009 := am_ (ho)
                  clear HO_04 ho hb hg hat
                  obtain ⟨Ao79, co79, eo79⟩ := Kd.R_slice HO009.out
                  (first | subst eo79 | (injection eo79 with f1_ f2_ f3_; have f4_ := f1_.symm; have f5_ := f3_.symm; clear f1_ f2_ f3_; subst f4_; subst f5_))
                  refine hK.out _ _ ?_
                  clear hK K
                  refine norm_ (a' := ?_) ?_ ?_
                  rotate_left
                  ·show Act.put _ (some 81) _ = _
                   simp only [Act.put, List.setIfInBounds_toArray, List.set_cons_zero, List.set_cons_succ, i64_w, i32_w]
                   rfl
                  refine pure_ (i := 21) (N := some 82) (v := ?_) (a' := ?_) #[true, true, true, true, true, true, true, true, true, true, true, true, true, true, true, true, true, true, true, true, true, true, false] rfl rfl (any_of HT_.out (by kernel_rfl)) (fun _ _ _ h => h) (Or.inl ⟨by rfl, ?_⟩) ?_ ?_
                  rotate_left
                  ·intro w'
                   go_simp
                   with_reducible rfl
                  rotate_left
                  ·simp only [Act.put, List.setIfInBounds_toArray, List.set_cons_zero, List.set_cons_succ, i64_w, i32_w]
                   rfl
                  refine last_ (i := 22) (N := none) #[true, true, true, true, true, true, true, true, true, true, true, true, true, true, true, true, true, true, true, true, true, true, true] rfl rfl (one_of HT_.out (by kernel_rfl)) (by decide) (fun K hK => ?_)
                  have hs80 : w78.cell? ⟨gb03, 0, none⟩ = some (u04) := (blk_cell BK03.out 0).trans rfl
                  have hfs80 := blk_frozen BK03.out 0
                  have hns80_0 := NB00_03.out
                  have hns80_1 := NB01_03.out
                  have hns80_2 := NB02_03.out
                  have hms80_0 := NB03_00.out
                  have hms80_1 := NB03_01.out
                  have hms80_2 := NB03_02.out
                  refine skip_ (w1 := ?_) (by rfl) rfl ?_ ?_
                  rotate_left
                  ·go_simp
                   rfl
                  refine hK.out _ _ ?_
                  clear hK K
                  refine done_ (done_of HT_.out (by kernel_rfl)) ?_
                  try go_wp2
                  go_roundg k3
                  case measure => have := HJ3.out; have := HK2.out; have := HK3.out; omega
                  case rel => exact ⟨(wrap64 (x11_3 + 1)), (y92), (.slice Ao79 y92.length co79), z60_1, H', ⟨by have := HJ3.out; have := HK2.out; have := HK3.out; omega⟩, ⟨ru (Kd.R_mono (Kd.R_far (p := ⟨gb03, 0, none⟩) (Kd.R_types HO_8.out BK03.out (by decide)) (fun _ hk => hk.2) (.slice Ao79 y92.length co79)) (fun _ hk => ⟨hk.1.2, hk.1.1⟩))⟩, ⟨ru (Kd.R_mono (Kd.R_far (p := ⟨gb03, 0, none⟩) (Kd.R_types HO009.out BK03.out (by decide)) (fun _ hk => hk.2) (.slice Ao79 y92.length co79)) (fun _ hk => ⟨hk.1.1, hk.1.2⟩))⟩, ⟨ru (Kd.R_mono (Kd.R_far (p := ⟨gb03, 0, none⟩) (Kd.R_types HO_95.out BK03.out (by decide)) (fun _ hk => hk.2) (.slice Ao79 y92.length co79)) (fun _ hk => ⟨hk.1.1, hk.1.2⟩))⟩, ⟨by (with_reducible repeat (first | refine blk_drewN ?_ _ | refine blk_drew ?_ | refine blk_alloc ?_ _)); refine blk_far ?_ NB00_03.out _; (with_reducible repeat (first | refine blk_drewN ?_ _ | refine blk_drew ?_ | refine blk_alloc ?_ _)); exact BK00.out⟩, ⟨by (with_reducible repeat (first | refine blk_drewN ?_ _ | refine blk_drew ?_ | refine blk_alloc ?_ _)); refine blk_far ?_ NB01_03.out _; (with_reducible repeat (first | refine blk_drewN ?_ _ | refine blk_drew ?_ | refine blk_alloc ?_ _)); exact BK01.out⟩, ⟨by (with_reducible repeat (first | refine blk_drewN ?_ _ | refine blk_drew ?_ | refine blk_alloc ?_ _)); refine blk_far ?_ NB02_03.out _; (with_reducible repeat (first | refine blk_drewN ?_ _ | refine blk_drew ?_ | refine blk_alloc ?_ _)); exact BK02.out⟩, ⟨by (with_reducible repeat (first | refine blk_drewN ?_ _ | refine blk_drew ?_ | refine blk_alloc ?_ _)); refine blk_put (cs := #[u04, .slice Ao57 y05.length co57]) ?_ 0 _ rfl; (with_reducible repeat (first | refine blk_drewN ?_ _ | refine blk_drew ?_ | refine blk_alloc ?_ _)); exact BK03.out⟩, ⟨z60_9⟩⟩
                 rw [if_neg c74] at H
                 exact absurd H (by simp)
                rw [if_neg c73] at H
                exact absurd H (by simp)
               rw [if_neg c72] at H
               exact absurd H (by simp)
              rw [if_neg c71] at H
              exact absurd H (by simp)
             rw [if_neg c70] at H
             exact absurd H (by simp)
            rw [if_neg c69] at H
            exact absurd H (by simp)
           rw [if_neg c67] at H
           exact absurd H (by simp)
          rw [if_neg c66] at H
          exact absurd H (by simp)
         rw [if_neg c65] at H
         exact absurd H (by simp)
        rw [if_neg c64] at H
        have c64b0 : decide (x11_3 < (l2.length : Int)) = false := decide_eq_false c64
        clear c64
        simp only [Option.some.injEq, Prod.mk.injEq] at H
        obtain ⟨rfl, rfl, rfl⟩ := H
        have hnb81 := NB03_00.out
        have hnc81 := NB00_03.out
        have hnb82 := NB03_01.out
        have hnc82 := NB01_03.out
        have hnb83 := NB03_02.out
        have hnc83 := NB02_03.out
        have hcz84_0 := cf0 BK03.out
        have hcz84_1 := cf1 BK03.out
        have hfz84_0 := blk_frozen BK03.out 0
        have hfz84_1 := blk_frozen BK03.out 1
        obtain ⟨Ao85, co85, eo85⟩ := Kd.R_slice HO_04.out
        subst eo85
        have hnb86 := NB02_00.out
        have hnc86 := NB00_02.out
        have hnb87 := NB02_01.out
        have hnc87 := NB01_02.out
        have hcz88_0 := cf0 BK02.out
        have hcz88_1 := cf1 BK02.out
        have hfz88_0 := blk_frozen BK02.out 0
        have hfz88_1 := blk_frozen BK02.out 1
        go_wp2
        refine bodyPost_ret (results_ct rfl _ _ gb02 24 #[.slice Ao85 x04_3.length co85, .slice Ao57 y05.length co57] (0, 0) _ rfl (by (with_reducible repeat (first | refine blk_drewN ?_ _ | refine blk_drew ?_ | refine blk_alloc ?_ _)); refine blk_put (cs := #[.slice Ao85 x04_3.length co85, .slice none 0 0]) ?_ 1 _ rfl; (with_reducible repeat (first | refine blk_drewN ?_ _ | refine blk_drew ?_ | refine blk_alloc ?_ _)); refine blk_put (cs := #[.slice none 0 0, .slice none 0 0]) ?_ 0 _ rfl; (with_reducible repeat (first | refine blk_drewN ?_ _ | refine blk_drew ?_ | refine blk_alloc ?_ _)); exact BK02.out) Try.underlying24 rfl (by kernel_rfl)) rfl ?_
        exact ⟨_, _, z60_3, ru (Kd.R_mono (Kd.R_far (p := ⟨gb02, 1, none⟩) (Kd.R_far (p := ⟨gb02, 0, none⟩) (Kd.R_types HO_04.out BK02.out (by decide)) (fun _ hk => hk.2) (.slice Ao85 x04_3.length co85)) (fun _ hk => hk.2) (.slice Ao57 y05.length co57)) (fun _ hk => hk.1.2)), ru (Kd.R_mono (Kd.R_far (p := ⟨gb02, 1, none⟩) (Kd.R_far (p := ⟨gb02, 0, none⟩) (Kd.R_types HO_95.out BK02.out (by decide)) (fun _ hk => hk.2) (.slice Ao85 x04_3.length co85)) (fun _ hk => hk.2) (.slice Ao57 y05.length co57)) (fun _ hk => hk.1.2)), z60_9⟩
     rw [if_neg c46] at H
     exact absurd H (by simp)

end Go.Proofs.Ytefkbmhkhpekjaa.PB

namespace Go.Proofs.Ytefkbmhkhpekjaa.PB
open Go.RowKit Go.Proofs.YtefkbmhkhpekjaaW.PrintWords Go.Proofs.YtefkbmhkhpekjaaW.PrintLast Go.Proofs.YtefkbmhkhpekjaaW.PrintMore
attribute [local go_sem] max2_int min2_int max_two min_two max_three min_three max_four min_four   -- for this text's walks alone
open Go.Proofs.YtefkbmhkhpekjaaMine
set_option linter.unusedVariables false
set_option linter.unusedSimpArgs false

theorem z91_1 {p : Prop} (h : p := by first | rfl | (simp; done) | (simp [*]; done)) : p := h
theorem z91_2 {p : Prop} (h : p := by first | (with_reducible assumption) | assumption) : p := h
theorem z91_3 {p : Prop} (h : p := by repeat (first | (with_reducible first | exact HB.out | apply below_alloc | apply pw_below_drewN | apply below_drew1) | exact HB.out)) : p := h
theorem z91_4 {p : Prop} (h : p := by repeat (first | (with_reducible first | exact HB.out | apply below_alloc | apply pw_below_drewN | apply below_drew1 | refine below_set ?_ GE610.out) | exact HB.out)) : p := h
theorem z91_5 {p : Prop} (h : p := by (with_reducible repeat (first | refine blk_drewN ?_ _ | refine blk_drew ?_ | refine blk_alloc ?_ _)); refine blk_put (cs := #[.int .i64 ((rd_T85 l0 x8_1).f0), .int .i64 ((rd_T85 l0 x8_1).f1), .int .i64 0]) ?_ 2 _ rfl; (with_reducible repeat (first | refine blk_drewN ?_ _ | refine blk_drew ?_ | refine blk_alloc ?_ _)); refine blk_put (cs := #[.int .i64 ((rd_T85 l0 x8_1).f0), .int .i64 0, .int .i64 0]) ?_ 1 _ rfl; (with_reducible repeat (first | refine blk_drewN ?_ _ | refine blk_drew ?_ | refine blk_alloc ?_ _)); refine blk_put (cs := #[.int .i64 0, .int .i64 0, .int .i64 0]) ?_ 0 _ rfl; (with_reducible repeat (first | refine blk_drewN ?_ _ | refine blk_drew ?_ | refine blk_alloc ?_ _)); exact BK610.out) : p := h
/-! ### impl_readsOf: function 91 -/
def impl_readsOf.l0 : Nat → Int → List (S85) → Int → Int → Option (Int)
  | 0, _, _, _, _ => none
  | k + 1, x3, x6, x7, x8 => if x8 < x7 then (if 0 ≤ x8 then (if x8 < (x6.length : Int) then ((impl_Do_reads.f ((rd_T85 x6 x8).f0) ((rd_T85 x6 x8).f1) ((rd_T85 x6 x8).f2)).bind fun t611 => (if t611 = true then (impl_readsOf.l0 k (wrap64 (x3 + 1)) x6 x7 (wrap64 (x8 + 1))) else (impl_readsOf.l0 k x3 x6 x7 (wrap64 (x8 + 1))))) else (none)) else (none)) else (some x3)
def impl_readsOf.f (k : Nat) (l0 : List (S85)) : Option (Int) := impl_readsOf.l0 k 0 l0 (l0.length : Int) 0
set_option maxHeartbeats 8000000 in
set_option maxRecDepth 100000 in
theorem impl_readsOf.calls (k : Nat) (A0 : Option Addr) (c0 : Nat) (l0 : List (S85)) (r : Int) (w : World) (hr0 : Kd.C k85 w A0 l0.length l0) (hc0 : l0.length ≤ c0) (h : impl_readsOf.f k l0 = some r) :
  Calls Try.prog 91 #[.slice A0 l0.length c0] w fun e w' => e = .returned (.int .i64 r) ∧ Below w.heap.size w w' := by
 have hu85 := Try.underlying85
 have HR0 := am_ hr0
 have HC0 := am_ hc0
 clear hr0 hc0
 have HB := am_ (Below.refl w.heap.size w)
 have H : (impl_readsOf.l0 k 0 l0 (l0.length : Int) 0) = some r := h
 clear h
 have H' := am_ H
 clear H
 go_enter Try.func91, Try.ntmps91
 go_wp2
 go_loopg [3, 8] k (fun kq v3 v8 w' => ∃ (x3_1 : Int) (x8_1 : Int), v3 = .int .i64 x3_1 ∧ v8 = .int .i64 x8_1 ∧ Aside0 (impl_readsOf.l0 kq x3_1 l0 (l0.length : Int) x8_1 = some r) ∧ Aside0 (kq ≤ k) ∧ Aside0 (Below w.heap.size w w'))
 case atStart => exact ⟨(0), (0), z91_1, z91_1, H', ⟨Nat.le_refl _⟩, ⟨z91_3⟩⟩
 case round =>
  clear H'
  obtain ⟨x3_1, x8_1, rfl, rfl, HA, HK1, HB⟩ := hrel
  cases gk with
  | zero => exact absurd HA.out (by simp [impl_readsOf.l0])
  | succ k1 =>
   have H := HA.out
   clear HA
   simp only [impl_readsOf.l0] at H
   by_cases c2 : x8_1 < (l0.length : Int)
   ·rw [if_pos c2] at H
    have c2b0 : decide (x8_1 < (l0.length : Int)) = true := decide_eq_true c2
    clear c2
    by_cases c3 : 0 ≤ x8_1
    ·rw [if_pos c3] at H
     have c3b0 : decide (0 ≤ x8_1) = true := decide_eq_true c3
     clear c3
     by_cases c4 : x8_1 < (l0.length : Int)
     ·rw [if_pos c4] at H
      have c4b0 : decide (x8_1 < (l0.length : Int)) = true := decide_eq_true c4
      clear c4
      replace H := Option.bind_eq_some_iff.mp H
      obtain ⟨t611, A50, H⟩ := H
      replace H : (if t611 = true then (impl_readsOf.l0 k1 (wrap64 (x3_1 + 1)) l0 (l0.length : Int) (wrap64 (x8_1 + 1))) else (impl_readsOf.l0 k1 x3_1 l0 (l0.length : Int) (wrap64 (x8_1 + 1)))) = some r := H
      have A5 := am_ A50
      clear A50
      by_cases c6 : t611 = true
      ·subst c6
       have H1 : (impl_readsOf.l0 k1 (wrap64 (x3_1 + 1)) l0 (l0.length : Int) (wrap64 (x8_1 + 1))) = some r := by rw [if_pos rfl] at H; exact H
       clear H
       have H := H1
       clear H1
       have H' := am_ H
       clear H
       have p609 : 0 ≤ (x8_1 : Int) := of_decide_eq_true z91_2
       have q609 : x8_1 < (l0.length : Int) := of_decide_eq_true z91_2
       obtain ⟨ad609, e609, hx609_0, hx609_1, hx609_2⟩ := at_T85 HR0.out x8_1 p609 q609
       cases e609
       replace hx609_0 := (HB.out.cell (World.block_lt_of_cell? w _ hx609_0)).trans hx609_0
       replace hx609_1 := (HB.out.cell (World.block_lt_of_cell? w _ hx609_1)).trans hx609_1
       replace hx609_2 := (HB.out.cell (World.block_lt_of_cell? w _ hx609_2)).trans hx609_2
       replace p609 := eq_true p609
       replace q609 := eq_true q609
       go_wp2_with (first | ((with_reducible refine gate_dst (N := 5) rfl ?_); refine box_event ?hg (N := 5) ?hd (cs := #[.int .i64 0, .int .i64 0, .int .i64 0]) (t := 85) ?hr ?_; (case hd => rfl); (case hg => rfl); (case hr => first | (go_simp; done) | (go_simp; rfl)); intro gb610 hg w7 hbox hb; have n0_ := am_ (below_step z91_3 hb); have n1_ := am_ (hbox); have n2_ := am_ (by rw [hg]; exact (below_size z91_3) : w.heap.size ≤ gb610); have n3_ := am_ (by rw [hg]; exact (below_size z91_3) : w.heap.size ≤ gb610); clear HB; have HB := n0_; have BK610 := n1_; have GW610 := n2_; have GE610 := n3_; clear n0_ n1_ n2_ n3_; clear hb hbox hg; have hcz8_0 := cf0 BK610.out; have hcz8_1 := cf1 BK610.out; have hcz8_2 := cf2 BK610.out; have hfz8_0 := blk_frozen BK610.out 0; have hfz8_1 := blk_frozen BK610.out 1; have hfz8_2 := blk_frozen BK610.out 2) | ((with_reducible refine gate_callee (f := 114) rfl ?_); refine goesL_ (some 13) rfl rfl Try.func114 (by kernel_rfl) rfl #[.agg #[.int .i64 ((rd_T85 l0 x8_1).f0), .int .i64 ((rd_T85 l0 x8_1).f1), .int .i64 ((rd_T85 l0 x8_1).f2)]] rfl (by (try simp only [List.map_toArray, List.map_cons, List.map_nil]); first | done | rfl | (simp only [List.length_drop, List.length_take]; rfl)) ?_; (with_reducible refine (impl_Do_reads.calls ((rd_T85 l0 x8_1).f0) ((rd_T85 l0 x8_1).f1) ((rd_T85 l0 x8_1).f2) true _ A5.out).mono ?_); rintro e w9 ⟨rfl, hb⟩; refine ⟨_, rfl, ?_⟩; replace BK610 := am_ (blk_below (g := gb610) (o := .cells #[.int .i64 ((rd_T85 l0 x8_1).f0), .int .i64 ((rd_T85 l0 x8_1).f1), .int .i64 ((rd_T85 l0 x8_1).f2)] 85 (0, 0)) z91_5 hb); replace HB := am_ (below_step z91_4 hb); (try clear hb); (try clear hb2); (try clear hk); (try clear hi)))
       go_roundg k1
       case measure => have := HK1.out; omega
       case rel => exact ⟨(wrap64 (x3_1 + 1)), (wrap64 (x8_1 + 1)), z91_1, z91_1, H', ⟨by have := HK1.out; omega⟩, ⟨z91_4⟩⟩
      replace c6 := Bool.eq_false_iff.mpr c6
      subst c6
      have H1 : (impl_readsOf.l0 k1 x3_1 l0 (l0.length : Int) (wrap64 (x8_1 + 1))) = some r := by rw [if_neg (show ¬ (false = true) by decide)] at H; exact H
      clear H
      have H := H1
      clear H1
      have H' := am_ H
      clear H
      have p609 : 0 ≤ (x8_1 : Int) := of_decide_eq_true z91_2
      have q609 : x8_1 < (l0.length : Int) := of_decide_eq_true z91_2
      obtain ⟨ad609, e609, hx609_0, hx609_1, hx609_2⟩ := at_T85 HR0.out x8_1 p609 q609
      cases e609
      replace hx609_0 := (HB.out.cell (World.block_lt_of_cell? w _ hx609_0)).trans hx609_0
      replace hx609_1 := (HB.out.cell (World.block_lt_of_cell? w _ hx609_1)).trans hx609_1
      replace hx609_2 := (HB.out.cell (World.block_lt_of_cell? w _ hx609_2)).trans hx609_2
      replace p609 := eq_true p609
      replace q609 := eq_true q609
      go_wp2_with (first | ((with_reducible refine gate_dst (N := 5) rfl ?_); refine box_event ?hg (N := 5) ?hd (cs := #[.int .i64 0, .int .i64 0, .int .i64 0]) (t := 85) ?hr ?_; (case hd => rfl); (case hg => rfl); (case hr => first | (go_simp; done) | (go_simp; rfl)); intro gb610 hg w10 hbox hb; have n0_ := am_ (below_step z91_3 hb); have n1_ := am_ (hbox); have n2_ := am_ (by rw [hg]; exact (below_size z91_3) : w.heap.size ≤ gb610); have n3_ := am_ (by rw [hg]; exact (below_size z91_3) : w.heap.size ≤ gb610); clear HB; have HB := n0_; have BK610 := n1_; have GW610 := n2_; have GE610 := n3_; clear n0_ n1_ n2_ n3_; clear hb hbox hg; have hcz11_0 := cf0 BK610.out; have hcz11_1 := cf1 BK610.out; have hcz11_2 := cf2 BK610.out; have hfz11_0 := blk_frozen BK610.out 0; have hfz11_1 := blk_frozen BK610.out 1; have hfz11_2 := blk_frozen BK610.out 2) | ((with_reducible refine gate_callee (f := 114) rfl ?_); refine goesL_ (some 13) rfl rfl Try.func114 (by kernel_rfl) rfl #[.agg #[.int .i64 ((rd_T85 l0 x8_1).f0), .int .i64 ((rd_T85 l0 x8_1).f1), .int .i64 ((rd_T85 l0 x8_1).f2)]] rfl (by (try simp only [List.map_toArray, List.map_cons, List.map_nil]); first | done | rfl | (simp only [List.length_drop, List.length_take]; rfl)) ?_; (with_reducible refine (impl_Do_reads.calls ((rd_T85 l0 x8_1).f0) ((rd_T85 l0 x8_1).f1) ((rd_T85 l0 x8_1).f2) false _ A5.out).mono ?_); rintro e w12 ⟨rfl, hb⟩; refine ⟨_, rfl, ?_⟩; replace BK610 := am_ (blk_below (g := gb610) (o := .cells #[.int .i64 ((rd_T85 l0 x8_1).f0), .int .i64 ((rd_T85 l0 x8_1).f1), .int .i64 ((rd_T85 l0 x8_1).f2)] 85 (0, 0)) z91_5 hb); replace HB := am_ (below_step z91_4 hb); (try clear hb); (try clear hb2); (try clear hk); (try clear hi)))
      go_roundg k1
      case measure => have := HK1.out; omega
      case rel => exact ⟨(x3_1), (wrap64 (x8_1 + 1)), z91_1, z91_1, H', ⟨by have := HK1.out; omega⟩, ⟨z91_4⟩⟩
     rw [if_neg c4] at H
     exact absurd H (by simp)
    rw [if_neg c3] at H
    exact absurd H (by simp)
   rw [if_neg c2] at H
   have c2b0 : decide (x8_1 < (l0.length : Int)) = false := decide_eq_false c2
   clear c2
   obtain rfl := Option.some.inj H
   go_wp2
   go_ret
   exact ⟨by first | rfl | (simp [errW_none, errW_some] <;> rfl) | (simp [*, errW_none, errW_some] <;> rfl), z91_3⟩

end Go.Proofs.Ytefkbmhkhpekjaa.PB

namespace Go.Proofs.Ytefkbmhkhpekjaa.PB
open Go.RowKit Go.Proofs.YtefkbmhkhpekjaaW.PrintWords Go.Proofs.YtefkbmhkhpekjaaW.PrintLast Go.Proofs.YtefkbmhkhpekjaaW.PrintMore
attribute [local go_sem] max2_int min2_int max_two min_two max_three min_three max_four min_four   -- for this text's walks alone
open Go.Proofs.YtefkbmhkhpekjaaMine
set_option linter.unusedVariables false
set_option linter.unusedSimpArgs false

theorem z40_1 {p : Prop} (h : p := by first | rfl | (simp; done) | (simp [*]; done)) : p := h
theorem z40_2 {p : Prop} (h : p := by first | rfl | (simp [errW_none, errW_some] <;> rfl) | (simp [*, errW_none, errW_some] <;> rfl)) : p := h
theorem z40_3 {p : Prop} (h : p := by repeat (first | (with_reducible first | exact HB.out | apply below_alloc | apply pw_below_drewN | apply below_drew1) | exact HB.out)) : p := h
theorem z40_4 {p : Prop} (h : p := by repeat (first | (with_reducible first | exact HB.out | apply below_alloc | apply pw_below_drewN | apply below_drew1 | refine below_set ?_ GE612.out) | exact HB.out)) : p := h
/-! ### impl_ProgReads: function 40 -/
def impl_ProgReads.l0 : Nat → Int → List (List (S85)) → Int → Int → Option (Int)
  | 0, _, _, _, _ => none
  | k + 1, x3, x10, x11, x12 => if x12 < x11 then (if 0 ≤ x12 then (if x12 < (x10.length : Int) then ((impl_readsOf.f k (rd_L7 x10 x12)).bind fun t615 => (impl_ProgReads.l0 k (wrap64 (x3 + t615)) x10 x11 (wrap64 (x12 + 1)))) else (none)) else (none)) else (some x3)
def impl_ProgReads.f (k : Nat) (l0_0 : List (List (S85))) : Option (Int) := (impl_ProgOk.f k l0_0).bind fun t613 => (if t613 = true then (impl_ProgReads.l0 k 0 l0_0 (l0_0.length : Int) 0) else (some (-1)))
set_option maxHeartbeats 8000000 in
set_option maxRecDepth 100000 in
theorem impl_ProgReads.calls (k : Nat) (A0_0 : Option Addr) (c0_0 : Nat) (l0_0 : List (List (S85))) (r : Int) (w : World) (hr0_0 : Kd.C (Kd.slice 85 k85) w A0_0 l0_0.length l0_0) (hc0_0 : l0_0.length ≤ c0_0) (h : impl_ProgReads.f k l0_0 = some r) :
  Calls Try.prog 40 #[.agg #[.slice A0_0 l0_0.length c0_0]] w fun e w' => e = .returned (.int .i64 r) ∧ Below w.heap.size w w' := by
 have hu35 := Try.underlying35
 have HR0_0 := am_ hr0_0
 have HC0_0 := am_ hc0_0
 clear hr0_0 hc0_0
 have HB := am_ (Below.refl w.heap.size w)
 have H : ((impl_ProgOk.f k l0_0).bind fun t613 => (if t613 = true then (impl_ProgReads.l0 k 0 l0_0 (l0_0.length : Int) 0) else (some (-1)))) = some r := h
 clear h
 replace H := Option.bind_eq_some_iff.mp H
 obtain ⟨t613, A20, H⟩ := H
 replace H : (if t613 = true then (impl_ProgReads.l0 k 0 l0_0 (l0_0.length : Int) 0) else (some (-1))) = some r := H
 have A2 := am_ A20
 clear A20
 by_cases c3 : t613 = true
 ·subst c3
  have H1 : (impl_ProgReads.l0 k 0 l0_0 (l0_0.length : Int) 0) = some r := by rw [if_pos rfl] at H; exact H
  clear H
  have H := H1
  clear H1
  have H' := am_ H
  clear H
  go_enter Try.func40, Try.ntmps40
  go_wp2_with (first | ((with_reducible refine gate_dst (N := 1) rfl ?_); refine box_event ?hg (N := 1) ?hd (cs := #[.slice A0_0 l0_0.length c0_0]) (t := 35) ?hr ?_; (case hd => rfl); (case hg => rfl); (case hr => first | (go_simp; done) | (go_simp; rfl)); intro gb612 hg w4 hbox hb; have n0_ := am_ (below_step z40_3 hb); have n1_ := am_ (hbox); have n2_ := am_ (by rw [hg]; exact (below_size z40_3) : w.heap.size ≤ gb612); have n3_ := am_ (by rw [hg]; exact (below_size z40_3) : w.heap.size ≤ gb612); clear HB; have HB := n0_; have BK612 := n1_; have GW612 := n2_; have GE612 := n3_; clear n0_ n1_ n2_ n3_; clear hb hbox hg; have hcz5_0 := cf0 BK612.out; have hfz5_0 := blk_frozen BK612.out 0) | ((with_reducible refine gate_callee (f := 31) rfl ?_); refine goesL_ (some 7) rfl rfl Try.func31 (by kernel_rfl) rfl #[.agg #[.slice A0_0 l0_0.length c0_0]] rfl (by (try simp only [List.map_toArray, List.map_cons, List.map_nil]); first | done | rfl | (simp only [List.length_drop, List.length_take]; rfl)) ?_; (with_reducible refine (impl_ProgOk.calls k _ _ l0_0 true _ ?side1 ?side2 A2.out).mono ?_); (case side1 => repeat (first | exact (Kd.C_below HR0_0.out HB.out) | (with_reducible refine Kd.C_alloc ?_ _) | (with_reducible refine Kd.C_drewN ?_ _) | (with_reducible refine Kd.C_drew ?_))); (case side2 => exact HC0_0.out); rintro e w6 ⟨rfl, hb⟩; refine ⟨_, rfl, ?_⟩; replace BK612 := am_ (blk_below (bu BK612.out) hb); replace HB := am_ (below_step z40_4 hb); (try clear hb); (try clear hb2); (try clear hk); (try clear hi); have hcz7_0 := cf0 BK612.out; have hfz7_0 := blk_frozen BK612.out 0))
  go_loopg [3, 12] k (fun kq v3 v12 w' => ∃ (x3_1 : Int) (x12_1 : Int), v3 = .int .i64 x3_1 ∧ v12 = .int .i64 x12_1 ∧ Aside0 (impl_ProgReads.l0 kq x3_1 l0_0 (l0_0.length : Int) x12_1 = some r) ∧ Aside0 (kq ≤ k) ∧ Aside0 (w'.heap[gb612]? = some (.cells #[(.slice A0_0 l0_0.length c0_0)] 35 (0, 0))) ∧ Aside0 (Below w.heap.size w w'))
  case atStart => exact ⟨(0), (0), z40_1, z40_1, H', ⟨Nat.le_refl _⟩, ⟨bu BK612.out⟩, ⟨z40_4⟩⟩
  case round =>
   clear H'
   obtain ⟨x3_1, x12_1, rfl, rfl, HA, HK1, BK612, HB⟩ := hrel
   cases gk with
   | zero => exact absurd HA.out (by simp [impl_ProgReads.l0])
   | succ k1 =>
    have H := HA.out
    clear HA
    simp only [impl_ProgReads.l0] at H
    by_cases c8 : x12_1 < (l0_0.length : Int)
    ·rw [if_pos c8] at H
     have c8b0 : decide (x12_1 < (l0_0.length : Int)) = true := decide_eq_true c8
     clear c8
     by_cases c9 : 0 ≤ x12_1
     ·rw [if_pos c9] at H
      have c9b0 : decide (0 ≤ x12_1) = true := decide_eq_true c9
      clear c9
      by_cases c10 : x12_1 < (l0_0.length : Int)
      ·rw [if_pos c10] at H
       have c10b0 : decide (x12_1 < (l0_0.length : Int)) = true := decide_eq_true c10
       clear c10
       replace H := Option.bind_eq_some_iff.mp H
       obtain ⟨t615, A110, H⟩ := H
       replace H : (impl_ProgReads.l0 k1 (wrap64 (x3_1 + t615)) l0_0 (l0_0.length : Int) (wrap64 (x12_1 + 1))) = some r := H
       have A11 := am_ A110
       clear A110
       have H' := am_ H
       clear H
       have p614 : 0 ≤ (x12_1 : Int) := of_decide_eq_true (by first | (with_reducible assumption) | assumption)
       have q614 : x12_1 < (l0_0.length : Int) := of_decide_eq_true (by first | (with_reducible assumption) | assumption)
       obtain ⟨ad614, A614_0, c614_0, e614, hx614_0, hl614_0, hi614_0⟩ := at_L7 HR0_0.out x12_1 p614 q614
       cases e614
       replace hx614_0 := (HB.out.cell (World.block_lt_of_cell? w _ hx614_0)).trans hx614_0
       have HR614_0 := am_ hi614_0
       have HC614_0 := am_ hl614_0
       clear hi614_0 hl614_0
       replace p614 := eq_true p614
       replace q614 := eq_true q614
       go_wp2_with (first | ((with_reducible refine gate_callee (f := 91) rfl ?_); refine goesL_ (some 18) rfl rfl Try.func91 (by kernel_rfl) rfl #[.slice A614_0 (rd_L7 l0_0 x12_1).length c614_0] rfl (by (try simp only [List.map_toArray, List.map_cons, List.map_nil]); first | done | rfl | (simp only [List.length_drop, List.length_take]; rfl)) ?_; (with_reducible refine (impl_readsOf.calls k1 _ _ (rd_L7 l0_0 x12_1) t615 _ ?side1 ?side2 A11.out).mono ?_); (case side1 => repeat (first | exact (Kd.C_below HR614_0.out HB.out) | (with_reducible refine Kd.C_alloc ?_ _) | (with_reducible refine Kd.C_drewN ?_ _) | (with_reducible refine Kd.C_drew ?_))); (case side2 => exact HC614_0.out); rintro e w12 ⟨rfl, hb⟩; refine ⟨_, rfl, ?_⟩; replace BK612 := am_ (blk_below (bu BK612.out) hb); replace HB := am_ (below_step z40_4 hb); (try clear hb); (try clear hb2); (try clear hk); (try clear hi)))
       go_roundg k1
       case measure => have := HK1.out; omega
       case rel => exact ⟨(wrap64 (x3_1 + t615)), (wrap64 (x12_1 + 1)), z40_1, z40_1, H', ⟨by have := HK1.out; omega⟩, ⟨bu BK612.out⟩, ⟨z40_4⟩⟩
      rw [if_neg c10] at H
      exact absurd H (by simp)
     rw [if_neg c9] at H
     exact absurd H (by simp)
    rw [if_neg c8] at H
    have c8b0 : decide (x12_1 < (l0_0.length : Int)) = false := decide_eq_false c8
    clear c8
    obtain rfl := Option.some.inj H
    go_wp2
    go_ret
    exact ⟨z40_2, z40_4⟩
 replace c3 := Bool.eq_false_iff.mpr c3
 subst c3
 have H1 : (some (-1)) = some r := by rw [if_neg (show ¬ (false = true) by decide)] at H; exact H
 clear H
 have H := H1
 clear H1
 obtain rfl := Option.some.inj H
 go_enter Try.func40, Try.ntmps40
 go_wp2_with (first | ((with_reducible refine gate_dst (N := 1) rfl ?_); refine box_event ?hg (N := 1) ?hd (cs := #[.slice A0_0 l0_0.length c0_0]) (t := 35) ?hr ?_; (case hd => rfl); (case hg => rfl); (case hr => first | (go_simp; done) | (go_simp; rfl)); intro gb612 hg w13 hbox hb; have n0_ := am_ (below_step z40_3 hb); have n1_ := am_ (hbox); have n2_ := am_ (by rw [hg]; exact (below_size z40_3) : w.heap.size ≤ gb612); have n3_ := am_ (by rw [hg]; exact (below_size z40_3) : w.heap.size ≤ gb612); clear HB; have HB := n0_; have BK612 := n1_; have GW612 := n2_; have GE612 := n3_; clear n0_ n1_ n2_ n3_; clear hb hbox hg; have hcz14_0 := cf0 BK612.out; have hfz14_0 := blk_frozen BK612.out 0) | ((with_reducible refine gate_callee (f := 31) rfl ?_); refine goesL_ (some 7) rfl rfl Try.func31 (by kernel_rfl) rfl #[.agg #[.slice A0_0 l0_0.length c0_0]] rfl (by (try simp only [List.map_toArray, List.map_cons, List.map_nil]); first | done | rfl | (simp only [List.length_drop, List.length_take]; rfl)) ?_; (with_reducible refine (impl_ProgOk.calls k _ _ l0_0 false _ ?side1 ?side2 A2.out).mono ?_); (case side1 => repeat (first | exact (Kd.C_below HR0_0.out HB.out) | (with_reducible refine Kd.C_alloc ?_ _) | (with_reducible refine Kd.C_drewN ?_ _) | (with_reducible refine Kd.C_drew ?_))); (case side2 => exact HC0_0.out); rintro e w15 ⟨rfl, hb⟩; refine ⟨_, rfl, ?_⟩; replace BK612 := am_ (blk_below (bu BK612.out) hb); replace HB := am_ (below_step z40_4 hb); (try clear hb); (try clear hb2); (try clear hk); (try clear hi)))
 go_ret
 exact ⟨z40_2, z40_4⟩

end Go.Proofs.Ytefkbmhkhpekjaa.PB

namespace Go.Proofs.Ytefkbmhkhpekjaa.PB
open Go.RowKit Go.Proofs.YtefkbmhkhpekjaaW.PrintWords Go.Proofs.YtefkbmhkhpekjaaW.PrintLast Go.Proofs.YtefkbmhkhpekjaaW.PrintMore
attribute [local go_sem] max2_int min2_int max_two min_two max_three min_three max_four min_four   -- for this text's walks alone
open Go.Proofs.YtefkbmhkhpekjaaMine
set_option linter.unusedVariables false
set_option linter.unusedSimpArgs false

/-! ### impl_valsOk: function 107 -/
/-- A value. -/
def valB (n : Int) : Bool := decide (0 ≤ n) && decide (n ≤ 3)
theorem valsOk_cl (n : Int) (w : World) :
    Calls Try.prog 130 #[.int .i64 n] w fun e w' => e = .returned (.bool (!valB n)) ∧ Below w.heap.size w w' := by
  have hin : impl_in.f n 0 3 = some (valB n) := by
    unfold impl_in.f valB
    by_cases h : n ≥ 0
    · rw [if_pos h, decide_eq_true (show 0 ≤ n from h), Bool.true_and]
    rw [if_neg h, decide_eq_false (show ¬ 0 ≤ n from h), Bool.false_and]
  go_enter Try.func130, Try.ntmps130
  go_wp2_with (go_at_call 66; refine park ?_)
  refine ⟨?_⟩
  refine (impl_in.calls n 0 3 (valB n) _ hin).mono ?_
  rintro e w1 ⟨rfl, hd⟩
  have hb := hd.below
  go_wp2_with fail
  go_ret
  exact ⟨rfl, hb⟩
set_option maxRecDepth 100000 in
set_option maxHeartbeats 800000 in
theorem valsOk_index (A : Option Addr) (c : Nat) (l : List Int) (w : World) (hr : Kd.C (Kd.int .i64) w A l.length l) (hc : l.length ≤ c) :
    Calls Try.prog 138 #[.slice A l.length c, .func (.func 130) #[] #[]] w fun e w' => ∃ r : Int, e = .returned (.int .i64 r) ∧ decide (0 ≤ r) = !(l.all valB) ∧ Below w.heap.size w w' := by
  have HR := am_ hr
  have hl : l.length ≤ 9223372036854775807 := hr.2.1
  clear hr
  go_enter Try.func138, Try.ntmps138
  go_wp2_with fail
  go_loopg [8] l.length (fun kq v8 w' => ∃ (dn rs : List Int), v8 = .int .i64 dn.length ∧ rs.length = kq ∧ Aside0 (dn ++ rs = l) ∧ Aside0 (dn.all valB = true) ∧ Aside0 (Below w.heap.size w w'))
  case atStart => exact ⟨[], l, rfl, rfl, ⟨rfl⟩, ⟨rfl⟩, ⟨Below.refl _ _⟩⟩
  case round =>
    obtain ⟨dn, rs, rfl, hk, HL, HD, HB⟩ := hrel
    have hle : dn.length + rs.length = l.length := by have := congrArg List.length HL.out; simpa using this
    cases rs with
    | nil =>
      have hge : ¬ (dn.length : Int) < (l.length : Int) := by simp only [List.length_nil] at hle; omega
      go_wp2_with fail
      go_ret
      refine ⟨-1, rfl, ?_, HB.out⟩
      have e := HL.out
      rw [List.append_nil] at e
      rw [← e, HD.out]
      rfl
    | cons d rs1 =>
      have hlt : (dn.length : Int) < (l.length : Int) := by simp only [List.length_cons] at hle; omega
      obtain ⟨ad, rfl, hx⟩ := Kd.at_int (Kd.C_below HR.out HB.out) (dn.length : Int) (by omega) hlt
      have hd : rd l (dn.length : Int) = d := by
        unfold rd
        rw [← HL.out, Int.toNat_natCast]
        simp
      rw [hd, Int.toNat_natCast] at hx
      go_wp2_with (go_at_call 130; refine park ?_)
      clear hx
      refine ⟨?_⟩
      refine (valsOk_cl d _).mono ?_
      rintro e w1 ⟨rfl, hb⟩
      have HB1 := am_ (below_then HB.out HB.out.size hb)
      clear hb
      cases hv : valB d with
      | false =>
        go_wp2_with fail
        go_ret
        refine ⟨(dn.length : Int), rfl, ?_, HB1.out⟩
        rw [← HL.out]
        simp [hv]
      | true =>
        go_wp2_with fail
        go_roundg rs1.length
        case measure => simp only [List.length_cons] at hk; omega
        case rel => exact ⟨dn ++ [d], rs1, by simp, rfl, ⟨by rw [← HL.out]; simp⟩, ⟨by simp [hv]; simpa using HD.out⟩, HB1⟩
def impl_valsOk.f (l0 : List Int) : Option Bool := some (l0.all valB)
set_option maxRecDepth 100000 in
set_option maxHeartbeats 800000 in
theorem impl_valsOk.calls (A0 : Option Addr) (c0 : Nat) (l0 : List Int) (r : Bool) (w : World) (hr0 : Kd.C (Kd.int .i64) w A0 l0.length l0) (hc0 : l0.length ≤ c0) (h : impl_valsOk.f l0 = some r) :
  Calls Try.prog 107 #[.slice A0 l0.length c0] w fun e w' => e = .returned (.bool r) ∧ Below w.heap.size w w' := by
 have h := Option.some.inj h
 have HR := am_ hr0
 clear hr0
 go_enter Try.func107, Try.ntmps107
 go_wp2_with (go_at_call 129; refine park ?_)
 refine ⟨?_⟩
 have key : Calls Try.prog 129 #[.slice A0 l0.length c0, .func (.func 130) #[] #[]] w fun e w' => e = .returned (.bool (!(l0.all valB))) ∧ Below w.heap.size w w' := by
  go_enter Try.func129, Try.ntmps129
  go_wp2_with (go_at_call 138; refine park ?_)
  refine ⟨?_⟩
  refine (valsOk_index A0 c0 l0 w HR.out hc0).mono ?_
  rintro e w1 ⟨r', rfl, hr', hb⟩
  have HB := am_ hb
  clear hb
  go_wp2_with fail
  go_ret
  exact ⟨by rw [h]; rfl, HB.out⟩
 refine key.mono ?_
 rintro e w1 ⟨rfl, hb⟩
 have HB := am_ hb
 clear hb
 go_wp2_with fail
 go_ret
 exact ⟨by rw [← h]; rfl, HB.out⟩


end Go.Proofs.Ytefkbmhkhpekjaa.PB

namespace Go.Proofs.Ytefkbmhkhpekjaa.PB
open Go.RowKit Go.Proofs.YtefkbmhkhpekjaaW.PrintWords Go.Proofs.YtefkbmhkhpekjaaW.PrintLast Go.Proofs.YtefkbmhkhpekjaaW.PrintMore
attribute [local go_sem] max2_int min2_int max_two min_two max_three min_three max_four min_four   -- for this text's walks alone
open Go.Proofs.YtefkbmhkhpekjaaMine
set_option linter.unusedVariables false
set_option linter.unusedSimpArgs false

/-! ### impl_SeenOk: function 63 -/
def impl_SeenOk.T1 : Bool × List (List Nat × List Nat) := (true, [([], []), ([0], [0]), ([1, 1], [1]), ([2], [2]), ([3, 2], [2, 3]), ([4, 2], [2, 4]), ([2], [2]), ([6, 2, 2], [2, 6]), ([5, 7, 2], [2, 5, 7]), ([2, 8], [2, 8]), ([9, 7], [9]), ([10], [10]), ([11, 10], [10, 11]), ([12, 10], [10, 12]), ([13, 10], [10, 13]), ([10, 14], [10, 14]), ([15, 10], [15]), ([16], [16]), ([17, 16], [16, 17]), ([18, 16, 16], [16, 18]), ([16, 19], [16, 19]), ([20, 19], [20]), ([21], [21]), ([22, 21], [21, 22]), ([23, 21, 21], [21, 23]), ([21, 24], [21, 24]), ([25, 24, 0, 1, 2, 3, 4, 5, 6, 7, 8, 9, 10, 11, 12, 13, 14, 15, 16, 17, 18, 19, 20, 21, 22, 23, 24, 25], [25])])
def impl_SeenOk.B1 : List Nat := [0, 1, 3, 7, 15, 31, 7, 71, 255, 511, 1023, 2047, 4095, 8191, 16383, 32767, 65535, 131071, 262143, 524287, 1048575, 2097151, 4194303, 8388607, 16777215, 33554431, 67108863]
theorem impl_SeenOk.tab1 : rtab .any (opsOf Try.f63 1) = impl_SeenOk.T1 := by kernel_rfl
theorem impl_SeenOk.bits1 : waitsOk impl_SeenOk.T1.2 impl_SeenOk.B1 = true := by kernel_rfl
def impl_SeenOk.f (k : Nat) (l0_0 : List (List S85)) (l1_0 : List Int) (l1_1 : List Int) : Option Bool := (impl_ProgOk.f k l0_0).bind fun a => (if a = true then ((impl_ProgReads.f k l0_0).bind fun c => (if (l1_0.length : Int) = c then (if (l1_1.length : Int) = 3 then ((impl_valsOk.f l1_0).bind fun d => (if d = true then ((impl_valsOk.f l1_1).bind fun e => (some e)) else (some false))) else (some false)) else (some false))) else (some false))
theorem impl_SeenOk.ways {k : Nat} {p : List (List S85)} {sr sl : List Int} {r : Bool} (h : impl_SeenOk.f k p sr sl = some r) : ∃ (b0 b1 b2 b3 : Bool) (m : Int), impl_ProgOk.f k p = some b0 ∧ (b0 = true → impl_ProgReads.f k p = some m ∧ b1 = ((sr.length : Int) == m)) ∧ (b0 = false → b1 = false) ∧ (b1 = true → b2 = ((sl.length : Int) == 3)) ∧ (b1 = false → b2 = false) ∧ (b2 = true → impl_valsOk.f sr = some b3) ∧ (b2 = false → b3 = false) ∧ (b3 = true → impl_valsOk.f sl = some r) ∧ (b3 = false → r = false) := by
  unfold impl_SeenOk.f at h
  obtain ⟨a, ea, h⟩ := Option.bind_eq_some_iff.mp h
  cases a with
  | false =>
    rw [if_neg (by simp)] at h
    obtain rfl := Option.some.inj h
    exact ⟨false, false, false, false, 0, ea, by simp, fun _ => rfl, by simp, fun _ => rfl, by simp, fun _ => rfl, by simp, fun _ => rfl⟩
  | true =>
    rw [if_pos rfl] at h
    obtain ⟨c, ec, h⟩ := Option.bind_eq_some_iff.mp h
    by_cases h1 : (sr.length : Int) = c
    rotate_left
    · rw [if_neg h1] at h
      obtain rfl := Option.some.inj h
      exact ⟨true, false, false, false, c, ea, fun _ => ⟨ec, (beq_eq_false_iff_ne.mpr h1).symm⟩, by simp, by simp, fun _ => rfl, by simp, fun _ => rfl, by simp, fun _ => rfl⟩
    rw [if_pos h1] at h
    by_cases h2 : (sl.length : Int) = 3
    rotate_left
    · rw [if_neg h2] at h
      obtain rfl := Option.some.inj h
      exact ⟨true, true, false, false, c, ea, fun _ => ⟨ec, (beq_iff_eq.mpr h1).symm⟩, by simp, fun _ => (beq_eq_false_iff_ne.mpr h2).symm, by simp, by simp, fun _ => rfl, by simp, fun _ => rfl⟩
    rw [if_pos h2] at h
    obtain ⟨d, ed, h⟩ := Option.bind_eq_some_iff.mp h
    cases d with
    | false =>
      rw [if_neg (by simp)] at h
      obtain rfl := Option.some.inj h
      exact ⟨true, true, true, false, c, ea, fun _ => ⟨ec, (beq_iff_eq.mpr h1).symm⟩, by simp, fun _ => (beq_iff_eq.mpr h2).symm, by simp, fun _ => ed, by simp, by simp, fun _ => rfl⟩
    | true =>
      rw [if_pos rfl] at h
      obtain ⟨e, ee, h⟩ := Option.bind_eq_some_iff.mp h
      obtain rfl := Option.some.inj h
      exact ⟨true, true, true, true, c, ea, fun _ => ⟨ec, (beq_iff_eq.mpr h1).symm⟩, by simp, fun _ => (beq_iff_eq.mpr h2).symm, by simp, fun _ => ed, by simp, fun _ => ee, by simp⟩
set_option maxRecDepth 100000 in
set_option maxHeartbeats 8000000 in
theorem impl_SeenOk.calls (k : Nat) (A0_0 : Option Addr) (c0_0 : Nat) (l0_0 : List (List S85)) (A1_0 : Option Addr) (c1_0 : Nat) (l1_0 : List Int) (A1_1 : Option Addr) (c1_1 : Nat) (l1_1 : List Int) (r : Bool) (w : World) (hr0_0 : Kd.C (Kd.slice 85 k85) w A0_0 l0_0.length l0_0) (hc0_0 : l0_0.length ≤ c0_0) (hr1_0 : Kd.C (Kd.int .i64) w A1_0 l1_0.length l1_0) (hc1_0 : l1_0.length ≤ c1_0) (hr1_1 : Kd.C (Kd.int .i64) w A1_1 l1_1.length l1_1) (hc1_1 : l1_1.length ≤ c1_1) (h : impl_SeenOk.f k l0_0 l1_0 l1_1 = some r) :
  Calls Try.prog 63 #[.agg #[.slice A0_0 l0_0.length c0_0], .agg #[.slice A1_0 l1_0.length c1_0, .slice A1_1 l1_1.length c1_1]] w fun e w' => e = .returned (.bool r) ∧ Below w.heap.size w w' := by
 obtain ⟨b0, b1, b2, b3, m, h0, h1, h1', h2, h2', h3, h3', h4, h4'⟩ := impl_SeenOk.ways h
 have C0 := am_ hr0_0
 have L0 := am_ hc0_0
 have C1 := am_ hr1_0
 have L1 := am_ hc1_0
 have C2 := am_ hr1_1
 have L2 := am_ hc1_1
 have G0 := am_ h0
 have G1 := am_ h1
 have G1f := am_ h1'
 have G2 := am_ h2
 have G2f := am_ h2'
 have G3 := am_ h3
 have G3f := am_ h3'
 have G4 := am_ h4
 have G4f := am_ h4'
 clear hr0_0 hc0_0 hr1_0 hc1_0 hr1_1 hc1_1 h0 h1 h1' h2 h2' h3 h3' h4 h4' h
 have hx0 := blk_alloc (heap_alloc_new w (Obj.cells #[Value.slice A0_0 l0_0.length c0_0] 35)) (Obj.cells #[Value.slice A1_0 l1_0.length c1_0, Value.slice A1_1 l1_1.length c1_1] 24)
 have hx1 := heap_alloc_new (w.alloc (Obj.cells #[Value.slice A0_0 l0_0.length c0_0] 35)) (Obj.cells #[Value.slice A1_0 l1_0.length c1_0, Value.slice A1_1 l1_1.length c1_1] 24)
 rw [World.size_alloc] at hx1
 have hB := below_alloc (below_alloc (Below.refl w.heap.size w) (Obj.cells #[Value.slice A0_0 l0_0.length c0_0] 35)) (Obj.cells #[Value.slice A1_0 l1_0.length c1_0, Value.slice A1_1 l1_1.length c1_1] 24)
 have BP := am_ (blk_drew hx0)
 have BS := am_ (blk_drew hx1)
 have HB := am_ (below_drew hB)
 clear hx0 hx1 hB
 go_enter Try.func63, Try.ntmps63
 go_wp2_with fail
 refine start_ (n := 27) (S := fun w' => w'.cell? ⟨w.heap.size, 0, none⟩ = some (.slice A0_0 l0_0.length c0_0) ∧ w'.cell? ⟨w.heap.size + 1, 0, none⟩ = some (.slice A1_0 l1_0.length c1_0) ∧ w'.cell? ⟨w.heap.size + 1, 1, none⟩ = some (.slice A1_1 l1_1.length c1_1)) (ds := []) #[false, false, false, false, false, false, false, false, false, false, false, false, false, false, false, false, false, false, false, false, false, false, false, false, false, false, false] (by kernel_rfl) rfl rfl ⟨(blk_cell BP.out 0).trans rfl, (blk_cell BS.out 0).trans rfl, (blk_cell BS.out 1).trans rfl⟩ (fun hHeld => ?_)
 refine with_tabW impl_SeenOk.tab1 impl_SeenOk.bits1 (fun HT_ HW_ => ?_)
 generalize ((w.alloc (Obj.cells #[Value.slice A0_0 l0_0.length c0_0] 35)).alloc (Obj.cells #[Value.slice A1_0 l1_0.length c1_0, Value.slice A1_1 l1_1.length c1_1] 24)).drew = X0 at *
 refine take_ (i := 0) (N := some 5) (v := ?_) (a' := ?_) #[true, false, false, false, false, false, false, false, false, false, false, false, false, false, false, false, false, false, false, false, false, false, false, false, false, false, false] rfl rfl (take_ofW HT_.out HW_.out (by kernel_rfl)) (fun _ _ _ h => h) (Or.inl ⟨by rfl, ?_⟩) hHeld ?_ ?_
 rotate_left
 ·intro w' s0
  have s1 := s0.1
  go_simp
  with_reducible rfl
 rotate_left
 ·simp only [Act.put, List.setIfInBounds_toArray, List.set_cons_zero, List.set_cons_succ, i64_w, i32_w]
  rfl
 refine one_ (i := 1) (N := some 6) #[true, true, false, false, false, false, false, false, false, false, false, false, false, false, false, false, false, false, false, false, false, false, false, false, false, false, false] rfl rfl (one_of HT_.out (by kernel_rfl)) (by decide) (fun K hK => ?_)
 refine goes_ Try.func31 (by kernel_rfl) rfl #[.agg #[.slice A0_0 l0_0.length c0_0]] (by rfl) rfl rfl (by (try simp only [List.map_toArray, List.map_cons, List.map_nil]); first | done | rfl) ?_
 with_reducible refine (impl_ProgOk.calls k _ _ l0_0 b0 _ (Kd.C_below C0.out HB.out) L0.out G0.out).mono ?_
 rintro e Y0 ⟨rfl, hb⟩
 refine ⟨_, rfl, ?_⟩
 have BPY0 := am_ (blk_below BP.out hb)
 have BSY0 := am_ (blk_below BS.out hb)
 have HBY0 := am_ (below_then HB.out HB.out.size hb)
 clear hb BP BS HB
 refine hK.out _ _ ⟨(blk_cell BPY0.out 0).trans rfl, (blk_cell BSY0.out 0).trans rfl, (blk_cell BSY0.out 1).trans rfl⟩ (fun hHeld => ?_)
 clear hK K
 refine norm_ (a' := ?_) ?_ ?_
 rotate_left
 ·show Act.put _ (some 6) _ = _
  simp only [Act.put, List.setIfInBounds_toArray, List.set_cons_zero, List.set_cons_succ, i64_w, i32_w]
  rfl
 refine pure_ (i := 2) (N := some 7) (v := ?_) (a' := ?_) #[true, true, true, false, false, false, false, false, false, false, false, false, false, false, false, false, false, false, false, false, false, false, false, false, false, false, false] rfl rfl (any_of HT_.out (by kernel_rfl)) (fun _ _ _ h => h) (Or.inl ⟨by rfl, ?_⟩) ?_ ?_
 rotate_left
 ·intro w'
  go_simp
  with_reducible rfl
 rotate_left
 ·simp only [Act.put, List.setIfInBounds_toArray, List.set_cons_zero, List.set_cons_succ, i64_w, i32_w]
  rfl
 refine join_ (σ := Value × Value × Value × Value × Value × Value) 17 #[true, true, true, true, true, true, true, true, true, true, false, false, false, false, false, false, false, false, false, false, false, false, false, false, false, false, false] (fun s_ => [(8, s_.1), (9, s_.2.1), (10, s_.2.2.1), (11, s_.2.2.2.1), (12, s_.2.2.2.2.1), (13, s_.2.2.2.2.2), (14, .bool b1)]) (fun s_ w' => (w'.cell? ⟨w.heap.size, 0, none⟩ = some (.slice A0_0 l0_0.length c0_0) ∧ w'.cell? ⟨w.heap.size + 1, 0, none⟩ = some (.slice A1_0 l1_0.length c1_0) ∧ w'.cell? ⟨w.heap.size + 1, 1, none⟩ = some (.slice A1_1 l1_1.length c1_1)) ∧ w'.heap[w.heap.size]? = some (Obj.cells #[Value.slice A0_0 l0_0.length c0_0] 35) ∧ w'.heap[w.heap.size + 1]? = some (Obj.cells #[Value.slice A1_0 l1_0.length c1_0, Value.slice A1_1 l1_1.length c1_1] 24) ∧ Below w.heap.size w w') ?_ ?_
 rotate_left
 ·intro hCont
  rcases b0 with _ | _
  ·have e2 := G1f.out rfl
   subst e2
   refine pure_ (i := 3) (N := some 8) (v := undef) (a' := ?_) #[true, true, true, true, false, false, false, false, false, false, false, false, false, false, false, false, false, false, false, false, false, false, false, false, false, false, false] rfl rfl (any_of HT_.out (by kernel_rfl)) (fun _ _ _ h => h) (Or.inr ⟨by rfl, rfl⟩) ?_ ?_
   rotate_left
   ·simp only [Act.put, List.setIfInBounds_toArray, List.set_cons_zero, List.set_cons_succ, i64_w, i32_w]
    rfl
   refine pure_ (i := 4) (N := some 9) (v := undef) (a' := ?_) #[true, true, true, true, true, false, false, false, false, false, false, false, false, false, false, false, false, false, false, false, false, false, false, false, false, false, false] rfl rfl (any_of HT_.out (by kernel_rfl)) (fun _ _ _ h => h) (Or.inr ⟨by rfl, rfl⟩) ?_ ?_
   rotate_left
   ·simp only [Act.put, List.setIfInBounds_toArray, List.set_cons_zero, List.set_cons_succ, i64_w, i32_w]
    rfl
   refine pure_ (i := 5) (N := some 10) (v := undef) (a' := ?_) #[true, true, true, true, true, true, false, false, false, false, false, false, false, false, false, false, false, false, false, false, false, false, false, false, false, false, false] rfl rfl (any_of HT_.out (by kernel_rfl)) (fun _ _ _ h => h) (Or.inr ⟨by rfl, rfl⟩) ?_ ?_
   rotate_left
   ·simp only [Act.put, List.setIfInBounds_toArray, List.set_cons_zero, List.set_cons_succ, i64_w, i32_w]
    rfl
   refine pure_ (i := 6) (N := some 11) (v := undef) (a' := ?_) #[true, true, true, true, true, true, true, false, false, false, false, false, false, false, false, false, false, false, false, false, false, false, false, false, false, false, false] rfl rfl (any_of HT_.out (by kernel_rfl)) (fun _ _ _ h => h) (Or.inr ⟨by rfl, rfl⟩) ?_ ?_
   rotate_left
   ·simp only [Act.put, List.setIfInBounds_toArray, List.set_cons_zero, List.set_cons_succ, i64_w, i32_w]
    rfl
   refine pure_ (i := 7) (N := some 12) (v := undef) (a' := ?_) #[true, true, true, true, true, true, true, true, false, false, false, false, false, false, false, false, false, false, false, false, false, false, false, false, false, false, false] rfl rfl (any_of HT_.out (by kernel_rfl)) (fun _ _ _ h => h) (Or.inr ⟨by rfl, rfl⟩) ?_ ?_
   rotate_left
   ·simp only [Act.put, List.setIfInBounds_toArray, List.set_cons_zero, List.set_cons_succ, i64_w, i32_w]
    rfl
   refine pure_ (i := 8) (N := some 13) (v := undef) (a' := ?_) #[true, true, true, true, true, true, true, true, true, false, false, false, false, false, false, false, false, false, false, false, false, false, false, false, false, false, false] rfl rfl (any_of HT_.out (by kernel_rfl)) (fun _ _ _ h => h) (Or.inr ⟨by rfl, rfl⟩) ?_ ?_
   rotate_left
   ·simp only [Act.put, List.setIfInBounds_toArray, List.set_cons_zero, List.set_cons_succ, i64_w, i32_w]
    rfl
   refine pure_ (i := 9) (N := some 14) (v := ?_) (a' := ?_) #[true, true, true, true, true, true, true, true, true, true, false, false, false, false, false, false, false, false, false, false, false, false, false, false, false, false, false] rfl rfl (any_of HT_.out (by kernel_rfl)) (fun _ _ _ h => h) (Or.inl ⟨by rfl, ?_⟩) ?_ ?_
   rotate_left
   ·intro w'
    go_simp
    with_reducible rfl
   rotate_left
   ·simp only [Act.put, List.setIfInBounds_toArray, List.set_cons_zero, List.set_cons_succ, i64_w, i32_w]
    rfl
   have zz := hCont (undef, undef, undef, undef, undef, undef) _ ⟨⟨(blk_cell BPY0.out 0).trans rfl, (blk_cell BSY0.out 0).trans rfl, (blk_cell BSY0.out 1).trans rfl⟩, BPY0.out, BSY0.out, HBY0.out⟩
   simp only [putAll, Act.put, List.setIfInBounds_toArray, List.set_cons_zero, List.set_cons_succ] at zz
   exact zz
  obtain ⟨e1, e2⟩ := G1.out rfl
  subst e2
  have E1 := am_ e1
  clear e1
  refine pure_ (i := 3) (N := some 8) (v := ?_) (a' := ?_) #[true, true, true, true, false, false, false, false, false, false, false, false, false, false, false, false, false, false, false, false, false, false, false, false, false, false, false] rfl rfl (any_of HT_.out (by kernel_rfl)) (fun _ _ _ h => h) (Or.inl ⟨by rfl, ?_⟩) ?_ ?_
  rotate_left
  ·intro w'
   go_simp
   with_reducible rfl
  rotate_left
  ·simp only [Act.put, List.setIfInBounds_toArray, List.set_cons_zero, List.set_cons_succ, i64_w, i32_w]
   rfl
  refine take_ (i := 4) (N := some 9) (v := ?_) (a' := ?_) #[true, true, true, true, true, false, false, false, false, false, false, false, false, false, false, false, false, false, false, false, false, false, false, false, false, false, false] rfl rfl (take_ofW HT_.out HW_.out (by kernel_rfl)) (fun _ _ _ h => h) (Or.inl ⟨by rfl, ?_⟩) hHeld ?_ ?_
  rotate_left
  ·intro w' s0
   have s1 := s0.2.1
   go_simp
   with_reducible rfl
  rotate_left
  ·simp only [Act.put, List.setIfInBounds_toArray, List.set_cons_zero, List.set_cons_succ, i64_w, i32_w]
   rfl
  refine pure_ (i := 5) (N := some 10) (v := ?_) (a' := ?_) #[true, true, true, true, true, true, false, false, false, false, false, false, false, false, false, false, false, false, false, false, false, false, false, false, false, false, false] rfl rfl (any_of HT_.out (by kernel_rfl)) (fun _ _ _ h => h) (Or.inl ⟨by rfl, ?_⟩) ?_ ?_
  rotate_left
  ·intro w'
   go_simp
   with_reducible rfl
  rotate_left
  ·simp only [Act.put, List.setIfInBounds_toArray, List.set_cons_zero, List.set_cons_succ, i64_w, i32_w]
   rfl
  refine take_ (i := 6) (N := some 11) (v := ?_) (a' := ?_) #[true, true, true, true, true, true, true, false, false, false, false, false, false, false, false, false, false, false, false, false, false, false, false, false, false, false, false] rfl rfl (take_ofW HT_.out HW_.out (by kernel_rfl)) (fun _ _ _ h => h) (Or.inl ⟨by rfl, ?_⟩) hHeld ?_ ?_
  rotate_left
  ·intro w' s0
   have s1 := s0.1
   go_simp
   with_reducible rfl
  rotate_left
  ·simp only [Act.put, List.setIfInBounds_toArray, List.set_cons_zero, List.set_cons_succ, i64_w, i32_w]
   rfl
  refine one_ (i := 7) (N := some 12) #[true, true, true, true, true, true, true, true, false, false, false, false, false, false, false, false, false, false, false, false, false, false, false, false, false, false, false] rfl rfl (one_of HT_.out (by kernel_rfl)) (by decide) (fun K hK => ?_)
  refine goes_ Try.func40 (by kernel_rfl) rfl #[.agg #[.slice A0_0 l0_0.length c0_0]] (by rfl) rfl rfl (by (try simp only [List.map_toArray, List.map_cons, List.map_nil]); first | done | rfl) ?_
  with_reducible refine (impl_ProgReads.calls k _ _ l0_0 m _ (Kd.C_below C0.out HBY0.out) L0.out E1.out).mono ?_
  rintro e Y1 ⟨rfl, hb⟩
  refine ⟨_, rfl, ?_⟩
  have BPY1 := am_ (blk_below BPY0.out hb)
  have BSY1 := am_ (blk_below BSY0.out hb)
  have HBY1 := am_ (below_then HBY0.out HBY0.out.size hb)
  clear hb BPY0 BSY0 HBY0
  refine hK.out _ _ ⟨(blk_cell BPY1.out 0).trans rfl, (blk_cell BSY1.out 0).trans rfl, (blk_cell BSY1.out 1).trans rfl⟩ (fun hHeld => ?_)
  clear hK K
  refine norm_ (a' := ?_) ?_ ?_
  rotate_left
  ·show Act.put _ (some 12) _ = _
   simp only [Act.put, List.setIfInBounds_toArray, List.set_cons_zero, List.set_cons_succ, i64_w, i32_w]
   rfl
  refine pure_ (i := 8) (N := some 13) (v := ?_) (a' := ?_) #[true, true, true, true, true, true, true, true, true, false, false, false, false, false, false, false, false, false, false, false, false, false, false, false, false, false, false] rfl rfl (any_of HT_.out (by kernel_rfl)) (fun _ _ _ h => h) (Or.inl ⟨by rfl, ?_⟩) ?_ ?_
  rotate_left
  ·intro w'
   go_simp
   with_reducible rfl
  rotate_left
  ·simp only [Act.put, List.setIfInBounds_toArray, List.set_cons_zero, List.set_cons_succ, i64_w, i32_w]
   rfl
  refine pure_ (i := 9) (N := some 14) (v := ?_) (a' := ?_) #[true, true, true, true, true, true, true, true, true, true, false, false, false, false, false, false, false, false, false, false, false, false, false, false, false, false, false] rfl rfl (any_of HT_.out (by kernel_rfl)) (fun _ _ _ h => h) (Or.inl ⟨by rfl, ?_⟩) ?_ ?_
  rotate_left
  ·intro w'
   go_simp
   with_reducible rfl
  rotate_left
  ·simp only [Act.put, List.setIfInBounds_toArray, List.set_cons_zero, List.set_cons_succ, i64_w, i32_w]
   rfl
  have zz := hCont (.pointer (some ⟨w.heap.size + 1, 0, none⟩), .slice A1_0 l1_0.length c1_0, .int .i64 l1_0.length, .agg #[.slice A0_0 l0_0.length c0_0], .int .i64 m, .bool ((l1_0.length : Int) == m)) _ ⟨⟨(blk_cell BPY1.out 0).trans rfl, (blk_cell BSY1.out 0).trans rfl, (blk_cell BSY1.out 1).trans rfl⟩, BPY1.out, BSY1.out, HBY1.out⟩
  simp only [putAll, Act.put, List.setIfInBounds_toArray, List.set_cons_zero, List.set_cons_succ] at zz
  exact zz
 rintro ⟨z0, z1, z2, z3, z4, z5⟩ Z1 ⟨hHeld, hp, hs, hb⟩
 clear BPY0 BSY0 HBY0
 have BPJ1 := am_ hp
 have BSJ1 := am_ hs
 have HBJ1 := am_ hb
 clear hp hs hb
 refine norm_ (a' := ?_) ?_ ?_
 rotate_left
 ·simp only [putAll, Act.put, List.setIfInBounds_toArray, List.set_cons_zero, List.set_cons_succ, i64_w, i32_w]
  rfl
 refine pure_ (i := 10) (N := some 15) (v := ?_) (a' := ?_) #[true, true, true, true, true, true, true, true, true, true, true, false, false, false, false, false, false, false, false, false, false, false, false, false, false, false, false] rfl rfl (any_of HT_.out (by kernel_rfl)) (fun _ _ _ h => h) (Or.inl ⟨by rfl, ?_⟩) ?_ ?_
 rotate_left
 ·intro w'
  go_simp
  with_reducible rfl
 rotate_left
 ·simp only [Act.put, List.setIfInBounds_toArray, List.set_cons_zero, List.set_cons_succ, i64_w, i32_w]
  rfl
 refine join_ (σ := Value × Value × Value × Value) 11 #[true, true, true, true, true, true, true, true, true, true, true, true, true, true, true, true, false, false, false, false, false, false, false, false, false, false, false] (fun s_ => [(16, s_.1), (17, s_.2.1), (18, s_.2.2.1), (19, s_.2.2.2), (20, .bool b2)]) (fun s_ w' => (w'.cell? ⟨w.heap.size, 0, none⟩ = some (.slice A0_0 l0_0.length c0_0) ∧ w'.cell? ⟨w.heap.size + 1, 0, none⟩ = some (.slice A1_0 l1_0.length c1_0) ∧ w'.cell? ⟨w.heap.size + 1, 1, none⟩ = some (.slice A1_1 l1_1.length c1_1)) ∧ w'.heap[w.heap.size]? = some (Obj.cells #[Value.slice A0_0 l0_0.length c0_0] 35) ∧ w'.heap[w.heap.size + 1]? = some (Obj.cells #[Value.slice A1_0 l1_0.length c1_0, Value.slice A1_1 l1_1.length c1_1] 24) ∧ Below w.heap.size w w') ?_ ?_
 rotate_left
 ·intro hCont
  rcases b1 with _ | _
  ·have e2 := G2f.out rfl
   subst e2
   refine pure_ (i := 11) (N := some 16) (v := undef) (a' := ?_) #[true, true, true, true, true, true, true, true, true, true, true, true, false, false, false, false, false, false, false, false, false, false, false, false, false, false, false] rfl rfl (any_of HT_.out (by kernel_rfl)) (fun _ _ _ h => h) (Or.inr ⟨by rfl, rfl⟩) ?_ ?_
   rotate_left
   ·simp only [Act.put, List.setIfInBounds_toArray, List.set_cons_zero, List.set_cons_succ, i64_w, i32_w]
    rfl
   refine pure_ (i := 12) (N := some 17) (v := undef) (a' := ?_) #[true, true, true, true, true, true, true, true, true, true, true, true, true, false, false, false, false, false, false, false, false, false, false, false, false, false, false] rfl rfl (any_of HT_.out (by kernel_rfl)) (fun _ _ _ h => h) (Or.inr ⟨by rfl, rfl⟩) ?_ ?_
   rotate_left
   ·simp only [Act.put, List.setIfInBounds_toArray, List.set_cons_zero, List.set_cons_succ, i64_w, i32_w]
    rfl
   refine pure_ (i := 13) (N := some 18) (v := undef) (a' := ?_) #[true, true, true, true, true, true, true, true, true, true, true, true, true, true, false, false, false, false, false, false, false, false, false, false, false, false, false] rfl rfl (any_of HT_.out (by kernel_rfl)) (fun _ _ _ h => h) (Or.inr ⟨by rfl, rfl⟩) ?_ ?_
   rotate_left
   ·simp only [Act.put, List.setIfInBounds_toArray, List.set_cons_zero, List.set_cons_succ, i64_w, i32_w]
    rfl
   refine pure_ (i := 14) (N := some 19) (v := undef) (a' := ?_) #[true, true, true, true, true, true, true, true, true, true, true, true, true, true, true, false, false, false, false, false, false, false, false, false, false, false, false] rfl rfl (any_of HT_.out (by kernel_rfl)) (fun _ _ _ h => h) (Or.inr ⟨by rfl, rfl⟩) ?_ ?_
   rotate_left
   ·simp only [Act.put, List.setIfInBounds_toArray, List.set_cons_zero, List.set_cons_succ, i64_w, i32_w]
    rfl
   refine pure_ (i := 15) (N := some 20) (v := ?_) (a' := ?_) #[true, true, true, true, true, true, true, true, true, true, true, true, true, true, true, true, false, false, false, false, false, false, false, false, false, false, false] rfl rfl (any_of HT_.out (by kernel_rfl)) (fun _ _ _ h => h) (Or.inl ⟨by rfl, ?_⟩) ?_ ?_
   rotate_left
   ·intro w'
    go_simp
    with_reducible rfl
   rotate_left
   ·simp only [Act.put, List.setIfInBounds_toArray, List.set_cons_zero, List.set_cons_succ, i64_w, i32_w]
    rfl
   have zz := hCont (undef, undef, undef, undef) _ ⟨⟨(blk_cell BPJ1.out 0).trans rfl, (blk_cell BSJ1.out 0).trans rfl, (blk_cell BSJ1.out 1).trans rfl⟩, BPJ1.out, BSJ1.out, HBJ1.out⟩
   simp only [putAll, Act.put, List.setIfInBounds_toArray, List.set_cons_zero, List.set_cons_succ] at zz
   exact zz
  have e2 := G2.out rfl
  subst e2
  refine pure_ (i := 11) (N := some 16) (v := ?_) (a' := ?_) #[true, true, true, true, true, true, true, true, true, true, true, true, false, false, false, false, false, false, false, false, false, false, false, false, false, false, false] rfl rfl (any_of HT_.out (by kernel_rfl)) (fun _ _ _ h => h) (Or.inl ⟨by rfl, ?_⟩) ?_ ?_
  rotate_left
  ·intro w'
   go_simp
   with_reducible rfl
  rotate_left
  ·simp only [Act.put, List.setIfInBounds_toArray, List.set_cons_zero, List.set_cons_succ, i64_w, i32_w]
   rfl
  refine take_ (i := 12) (N := some 17) (v := ?_) (a' := ?_) #[true, true, true, true, true, true, true, true, true, true, true, true, true, false, false, false, false, false, false, false, false, false, false, false, false, false, false] rfl rfl (take_ofW HT_.out HW_.out (by kernel_rfl)) (fun _ _ _ h => h) (Or.inl ⟨by rfl, ?_⟩) hHeld ?_ ?_
  rotate_left
  ·intro w' s0
   have s1 := s0.2.2
   go_simp
   with_reducible rfl
  rotate_left
  ·simp only [Act.put, List.setIfInBounds_toArray, List.set_cons_zero, List.set_cons_succ, i64_w, i32_w]
   rfl
  refine pure_ (i := 13) (N := some 18) (v := ?_) (a' := ?_) #[true, true, true, true, true, true, true, true, true, true, true, true, true, true, false, false, false, false, false, false, false, false, false, false, false, false, false] rfl rfl (any_of HT_.out (by kernel_rfl)) (fun _ _ _ h => h) (Or.inl ⟨by rfl, ?_⟩) ?_ ?_
  rotate_left
  ·intro w'
   go_simp
   with_reducible rfl
  rotate_left
  ·simp only [Act.put, List.setIfInBounds_toArray, List.set_cons_zero, List.set_cons_succ, i64_w, i32_w]
   rfl
  refine pure_ (i := 14) (N := some 19) (v := ?_) (a' := ?_) #[true, true, true, true, true, true, true, true, true, true, true, true, true, true, true, false, false, false, false, false, false, false, false, false, false, false, false] rfl rfl (any_of HT_.out (by kernel_rfl)) (fun _ _ _ h => h) (Or.inl ⟨by rfl, ?_⟩) ?_ ?_
  rotate_left
  ·intro w'
   go_simp
   with_reducible rfl
  rotate_left
  ·simp only [Act.put, List.setIfInBounds_toArray, List.set_cons_zero, List.set_cons_succ, i64_w, i32_w]
   rfl
  refine pure_ (i := 15) (N := some 20) (v := ?_) (a' := ?_) #[true, true, true, true, true, true, true, true, true, true, true, true, true, true, true, true, false, false, false, false, false, false, false, false, false, false, false] rfl rfl (any_of HT_.out (by kernel_rfl)) (fun _ _ _ h => h) (Or.inl ⟨by rfl, ?_⟩) ?_ ?_
  rotate_left
  ·intro w'
   go_simp
   with_reducible rfl
  rotate_left
  ·simp only [Act.put, List.setIfInBounds_toArray, List.set_cons_zero, List.set_cons_succ, i64_w, i32_w]
   rfl
  have zz := hCont (.pointer (some ⟨w.heap.size + 1, 1, none⟩), .slice A1_1 l1_1.length c1_1, .int .i64 l1_1.length, .bool ((l1_1.length : Int) == 3)) _ ⟨⟨(blk_cell BPJ1.out 0).trans rfl, (blk_cell BSJ1.out 0).trans rfl, (blk_cell BSJ1.out 1).trans rfl⟩, BPJ1.out, BSJ1.out, HBJ1.out⟩
  simp only [putAll, Act.put, List.setIfInBounds_toArray, List.set_cons_zero, List.set_cons_succ] at zz
  exact zz
 rintro ⟨z0, z1, z2, z3⟩ Z2 ⟨hHeld, hp, hs, hb⟩
 clear BPJ1 BSJ1 HBJ1
 have BPJ2 := am_ hp
 have BSJ2 := am_ hs
 have HBJ2 := am_ hb
 clear hp hs hb
 refine norm_ (a' := ?_) ?_ ?_
 rotate_left
 ·simp only [putAll, Act.put, List.setIfInBounds_toArray, List.set_cons_zero, List.set_cons_succ, i64_w, i32_w]
  rfl
 refine pure_ (i := 16) (N := some 21) (v := ?_) (a' := ?_) #[true, true, true, true, true, true, true, true, true, true, true, true, true, true, true, true, true, false, false, false, false, false, false, false, false, false, false] rfl rfl (any_of HT_.out (by kernel_rfl)) (fun _ _ _ h => h) (Or.inl ⟨by rfl, ?_⟩) ?_ ?_
 rotate_left
 ·intro w'
  go_simp
  with_reducible rfl
 rotate_left
 ·simp only [Act.put, List.setIfInBounds_toArray, List.set_cons_zero, List.set_cons_succ, i64_w, i32_w]
  rfl
 refine join_ (σ := Value × Value × Value) 6 #[true, true, true, true, true, true, true, true, true, true, true, true, true, true, true, true, true, true, true, true, true, false, false, false, false, false, false] (fun s_ => [(22, s_.1), (23, s_.2.1), (24, s_.2.2), (25, .bool b3)]) (fun s_ w' => (w'.cell? ⟨w.heap.size, 0, none⟩ = some (.slice A0_0 l0_0.length c0_0) ∧ w'.cell? ⟨w.heap.size + 1, 0, none⟩ = some (.slice A1_0 l1_0.length c1_0) ∧ w'.cell? ⟨w.heap.size + 1, 1, none⟩ = some (.slice A1_1 l1_1.length c1_1)) ∧ w'.heap[w.heap.size]? = some (Obj.cells #[Value.slice A0_0 l0_0.length c0_0] 35) ∧ w'.heap[w.heap.size + 1]? = some (Obj.cells #[Value.slice A1_0 l1_0.length c1_0, Value.slice A1_1 l1_1.length c1_1] 24) ∧ Below w.heap.size w w') ?_ ?_
 rotate_left
 ·intro hCont
  rcases b2 with _ | _
  ·have e2 := G3f.out rfl
   subst e2
   refine pure_ (i := 17) (N := some 22) (v := undef) (a' := ?_) #[true, true, true, true, true, true, true, true, true, true, true, true, true, true, true, true, true, true, false, false, false, false, false, false, false, false, false] rfl rfl (any_of HT_.out (by kernel_rfl)) (fun _ _ _ h => h) (Or.inr ⟨by rfl, rfl⟩) ?_ ?_
   rotate_left
   ·simp only [Act.put, List.setIfInBounds_toArray, List.set_cons_zero, List.set_cons_succ, i64_w, i32_w]
    rfl
   refine pure_ (i := 18) (N := some 23) (v := undef) (a' := ?_) #[true, true, true, true, true, true, true, true, true, true, true, true, true, true, true, true, true, true, true, false, false, false, false, false, false, false, false] rfl rfl (any_of HT_.out (by kernel_rfl)) (fun _ _ _ h => h) (Or.inr ⟨by rfl, rfl⟩) ?_ ?_
   rotate_left
   ·simp only [Act.put, List.setIfInBounds_toArray, List.set_cons_zero, List.set_cons_succ, i64_w, i32_w]
    rfl
   refine pure_ (i := 19) (N := some 24) (v := undef) (a' := ?_) #[true, true, true, true, true, true, true, true, true, true, true, true, true, true, true, true, true, true, true, true, false, false, false, false, false, false, false] rfl rfl (any_of HT_.out (by kernel_rfl)) (fun _ _ _ h => h) (Or.inr ⟨by rfl, rfl⟩) ?_ ?_
   rotate_left
   ·simp only [Act.put, List.setIfInBounds_toArray, List.set_cons_zero, List.set_cons_succ, i64_w, i32_w]
    rfl
   refine pure_ (i := 20) (N := some 25) (v := ?_) (a' := ?_) #[true, true, true, true, true, true, true, true, true, true, true, true, true, true, true, true, true, true, true, true, true, false, false, false, false, false, false] rfl rfl (any_of HT_.out (by kernel_rfl)) (fun _ _ _ h => h) (Or.inl ⟨by rfl, ?_⟩) ?_ ?_
   rotate_left
   ·intro w'
    go_simp
    with_reducible rfl
   rotate_left
   ·simp only [Act.put, List.setIfInBounds_toArray, List.set_cons_zero, List.set_cons_succ, i64_w, i32_w]
    rfl
   have zz := hCont (undef, undef, undef) _ ⟨⟨(blk_cell BPJ2.out 0).trans rfl, (blk_cell BSJ2.out 0).trans rfl, (blk_cell BSJ2.out 1).trans rfl⟩, BPJ2.out, BSJ2.out, HBJ2.out⟩
   simp only [putAll, Act.put, List.setIfInBounds_toArray, List.set_cons_zero, List.set_cons_succ] at zz
   exact zz
  have E1 := am_ (G3.out rfl)
  refine pure_ (i := 17) (N := some 22) (v := ?_) (a' := ?_) #[true, true, true, true, true, true, true, true, true, true, true, true, true, true, true, true, true, true, false, false, false, false, false, false, false, false, false] rfl rfl (any_of HT_.out (by kernel_rfl)) (fun _ _ _ h => h) (Or.inl ⟨by rfl, ?_⟩) ?_ ?_
  rotate_left
  ·intro w'
   go_simp
   with_reducible rfl
  rotate_left
  ·simp only [Act.put, List.setIfInBounds_toArray, List.set_cons_zero, List.set_cons_succ, i64_w, i32_w]
   rfl
  refine take_ (i := 18) (N := some 23) (v := ?_) (a' := ?_) #[true, true, true, true, true, true, true, true, true, true, true, true, true, true, true, true, true, true, true, false, false, false, false, false, false, false, false] rfl rfl (take_ofW HT_.out HW_.out (by kernel_rfl)) (fun _ _ _ h => h) (Or.inl ⟨by rfl, ?_⟩) hHeld ?_ ?_
  rotate_left
  ·intro w' s0
   have s1 := s0.2.1
   go_simp
   with_reducible rfl
  rotate_left
  ·simp only [Act.put, List.setIfInBounds_toArray, List.set_cons_zero, List.set_cons_succ, i64_w, i32_w]
   rfl
  refine one_ (i := 19) (N := some 24) #[true, true, true, true, true, true, true, true, true, true, true, true, true, true, true, true, true, true, true, true, false, false, false, false, false, false, false] rfl rfl (one_of HT_.out (by kernel_rfl)) (by decide) (fun K hK => ?_)
  refine goes_ Try.func107 (by kernel_rfl) rfl #[.slice A1_0 l1_0.length c1_0] (by rfl) rfl rfl (by (try simp only [List.map_toArray, List.map_cons, List.map_nil]); first | done | rfl) ?_
  with_reducible refine (impl_valsOk.calls _ _ l1_0 b3 _ (Kd.C_below C1.out HBJ2.out) L1.out E1.out).mono ?_
  rintro e Y3 ⟨rfl, hb⟩
  refine ⟨_, rfl, ?_⟩
  have BPY3 := am_ (blk_below BPJ2.out hb)
  have BSY3 := am_ (blk_below BSJ2.out hb)
  have HBY3 := am_ (below_then HBJ2.out HBJ2.out.size hb)
  clear hb BPJ2 BSJ2 HBJ2
  refine hK.out _ _ ⟨(blk_cell BPY3.out 0).trans rfl, (blk_cell BSY3.out 0).trans rfl, (blk_cell BSY3.out 1).trans rfl⟩ (fun hHeld => ?_)
  clear hK K
  refine norm_ (a' := ?_) ?_ ?_
  rotate_left
  ·show Act.put _ (some 24) _ = _
   simp only [Act.put, List.setIfInBounds_toArray, List.set_cons_zero, List.set_cons_succ, i64_w, i32_w]
   rfl
  refine pure_ (i := 20) (N := some 25) (v := ?_) (a' := ?_) #[true, true, true, true, true, true, true, true, true, true, true, true, true, true, true, true, true, true, true, true, true, false, false, false, false, false, false] rfl rfl (any_of HT_.out (by kernel_rfl)) (fun _ _ _ h => h) (Or.inl ⟨by rfl, ?_⟩) ?_ ?_
  rotate_left
  ·intro w'
   go_simp
   with_reducible rfl
  rotate_left
  ·simp only [Act.put, List.setIfInBounds_toArray, List.set_cons_zero, List.set_cons_succ, i64_w, i32_w]
   rfl
  have zz := hCont (.pointer (some ⟨w.heap.size + 1, 0, none⟩), .slice A1_0 l1_0.length c1_0, .bool b3) _ ⟨⟨(blk_cell BPY3.out 0).trans rfl, (blk_cell BSY3.out 0).trans rfl, (blk_cell BSY3.out 1).trans rfl⟩, BPY3.out, BSY3.out, HBY3.out⟩
  simp only [putAll, Act.put, List.setIfInBounds_toArray, List.set_cons_zero, List.set_cons_succ] at zz
  exact zz
 rintro ⟨z0, z1, z2⟩ Z3 ⟨hHeld, hp, hs, hb⟩
 clear BPJ2 BSJ2 HBJ2
 have BPJ3 := am_ hp
 have BSJ3 := am_ hs
 have HBJ3 := am_ hb
 clear hp hs hb
 refine norm_ (a' := ?_) ?_ ?_
 rotate_left
 ·simp only [putAll, Act.put, List.setIfInBounds_toArray, List.set_cons_zero, List.set_cons_succ, i64_w, i32_w]
  rfl
 refine pure_ (i := 21) (N := some 26) (v := ?_) (a' := ?_) #[true, true, true, true, true, true, true, true, true, true, true, true, true, true, true, true, true, true, true, true, true, true, false, false, false, false, false] rfl rfl (any_of HT_.out (by kernel_rfl)) (fun _ _ _ h => h) (Or.inl ⟨by rfl, ?_⟩) ?_ ?_
 rotate_left
 ·intro w'
  go_simp
  with_reducible rfl
 rotate_left
 ·simp only [Act.put, List.setIfInBounds_toArray, List.set_cons_zero, List.set_cons_succ, i64_w, i32_w]
  rfl
 refine join_ (σ := Value × Value × Value) 1 #[true, true, true, true, true, true, true, true, true, true, true, true, true, true, true, true, true, true, true, true, true, true, true, true, true, true, false] (fun s_ => [(27, s_.1), (28, s_.2.1), (29, s_.2.2), (30, .bool r)]) (fun s_ w' => (w'.cell? ⟨w.heap.size, 0, none⟩ = some (.slice A0_0 l0_0.length c0_0) ∧ w'.cell? ⟨w.heap.size + 1, 0, none⟩ = some (.slice A1_0 l1_0.length c1_0) ∧ w'.cell? ⟨w.heap.size + 1, 1, none⟩ = some (.slice A1_1 l1_1.length c1_1)) ∧ w'.heap[w.heap.size]? = some (Obj.cells #[Value.slice A0_0 l0_0.length c0_0] 35) ∧ w'.heap[w.heap.size + 1]? = some (Obj.cells #[Value.slice A1_0 l1_0.length c1_0, Value.slice A1_1 l1_1.length c1_1] 24) ∧ Below w.heap.size w w') ?_ ?_
 rotate_left
 ·intro hCont
  rcases b3 with _ | _
  ·have e2 := G4f.out rfl
   subst e2
   refine pure_ (i := 22) (N := some 27) (v := undef) (a' := ?_) #[true, true, true, true, true, true, true, true, true, true, true, true, true, true, true, true, true, true, true, true, true, true, true, false, false, false, false] rfl rfl (any_of HT_.out (by kernel_rfl)) (fun _ _ _ h => h) (Or.inr ⟨by rfl, rfl⟩) ?_ ?_
   rotate_left
   ·simp only [Act.put, List.setIfInBounds_toArray, List.set_cons_zero, List.set_cons_succ, i64_w, i32_w]
    rfl
   refine pure_ (i := 23) (N := some 28) (v := undef) (a' := ?_) #[true, true, true, true, true, true, true, true, true, true, true, true, true, true, true, true, true, true, true, true, true, true, true, true, false, false, false] rfl rfl (any_of HT_.out (by kernel_rfl)) (fun _ _ _ h => h) (Or.inr ⟨by rfl, rfl⟩) ?_ ?_
   rotate_left
   ·simp only [Act.put, List.setIfInBounds_toArray, List.set_cons_zero, List.set_cons_succ, i64_w, i32_w]
    rfl
   refine pure_ (i := 24) (N := some 29) (v := undef) (a' := ?_) #[true, true, true, true, true, true, true, true, true, true, true, true, true, true, true, true, true, true, true, true, true, true, true, true, true, false, false] rfl rfl (any_of HT_.out (by kernel_rfl)) (fun _ _ _ h => h) (Or.inr ⟨by rfl, rfl⟩) ?_ ?_
   rotate_left
   ·simp only [Act.put, List.setIfInBounds_toArray, List.set_cons_zero, List.set_cons_succ, i64_w, i32_w]
    rfl
   refine pure_ (i := 25) (N := some 30) (v := ?_) (a' := ?_) #[true, true, true, true, true, true, true, true, true, true, true, true, true, true, true, true, true, true, true, true, true, true, true, true, true, true, false] rfl rfl (any_of HT_.out (by kernel_rfl)) (fun _ _ _ h => h) (Or.inl ⟨by rfl, ?_⟩) ?_ ?_
   rotate_left
   ·intro w'
    go_simp
    with_reducible rfl
   rotate_left
   ·simp only [Act.put, List.setIfInBounds_toArray, List.set_cons_zero, List.set_cons_succ, i64_w, i32_w]
    rfl
   have zz := hCont (undef, undef, undef) _ ⟨⟨(blk_cell BPJ3.out 0).trans rfl, (blk_cell BSJ3.out 0).trans rfl, (blk_cell BSJ3.out 1).trans rfl⟩, BPJ3.out, BSJ3.out, HBJ3.out⟩
   simp only [putAll, Act.put, List.setIfInBounds_toArray, List.set_cons_zero, List.set_cons_succ] at zz
   exact zz
  have E1 := am_ (G4.out rfl)
  refine pure_ (i := 22) (N := some 27) (v := ?_) (a' := ?_) #[true, true, true, true, true, true, true, true, true, true, true, true, true, true, true, true, true, true, true, true, true, true, true, false, false, false, false] rfl rfl (any_of HT_.out (by kernel_rfl)) (fun _ _ _ h => h) (Or.inl ⟨by rfl, ?_⟩) ?_ ?_
  rotate_left
  ·intro w'
   go_simp
   with_reducible rfl
  rotate_left
  ·simp only [Act.put, List.setIfInBounds_toArray, List.set_cons_zero, List.set_cons_succ, i64_w, i32_w]
   rfl
  refine take_ (i := 23) (N := some 28) (v := ?_) (a' := ?_) #[true, true, true, true, true, true, true, true, true, true, true, true, true, true, true, true, true, true, true, true, true, true, true, true, false, false, false] rfl rfl (take_ofW HT_.out HW_.out (by kernel_rfl)) (fun _ _ _ h => h) (Or.inl ⟨by rfl, ?_⟩) hHeld ?_ ?_
  rotate_left
  ·intro w' s0
   have s1 := s0.2.2
   go_simp
   with_reducible rfl
  rotate_left
  ·simp only [Act.put, List.setIfInBounds_toArray, List.set_cons_zero, List.set_cons_succ, i64_w, i32_w]
   rfl
  refine one_ (i := 24) (N := some 29) #[true, true, true, true, true, true, true, true, true, true, true, true, true, true, true, true, true, true, true, true, true, true, true, true, true, false, false] rfl rfl (one_of HT_.out (by kernel_rfl)) (by decide) (fun K hK => ?_)
  refine goes_ Try.func107 (by kernel_rfl) rfl #[.slice A1_1 l1_1.length c1_1] (by rfl) rfl rfl (by (try simp only [List.map_toArray, List.map_cons, List.map_nil]); first | done | rfl) ?_
  with_reducible refine (impl_valsOk.calls _ _ l1_1 r _ (Kd.C_below C2.out HBJ3.out) L2.out E1.out).mono ?_
  rintro e Y4 ⟨rfl, hb⟩
  refine ⟨_, rfl, ?_⟩
  have BPY4 := am_ (blk_below BPJ3.out hb)
  have BSY4 := am_ (blk_below BSJ3.out hb)
  have HBY4 := am_ (below_then HBJ3.out HBJ3.out.size hb)
  clear hb BPJ3 BSJ3 HBJ3
  refine hK.out _ _ ⟨(blk_cell BPY4.out 0).trans rfl, (blk_cell BSY4.out 0).trans rfl, (blk_cell BSY4.out 1).trans rfl⟩ (fun hHeld => ?_)
  clear hK K
  refine norm_ (a' := ?_) ?_ ?_
  rotate_left
  ·show Act.put _ (some 29) _ = _
   simp only [Act.put, List.setIfInBounds_toArray, List.set_cons_zero, List.set_cons_succ, i64_w, i32_w]
   rfl
  refine pure_ (i := 25) (N := some 30) (v := ?_) (a' := ?_) #[true, true, true, true, true, true, true, true, true, true, true, true, true, true, true, true, true, true, true, true, true, true, true, true, true, true, false] rfl rfl (any_of HT_.out (by kernel_rfl)) (fun _ _ _ h => h) (Or.inl ⟨by rfl, ?_⟩) ?_ ?_
  rotate_left
  ·intro w'
   go_simp
   with_reducible rfl
  rotate_left
  ·simp only [Act.put, List.setIfInBounds_toArray, List.set_cons_zero, List.set_cons_succ, i64_w, i32_w]
   rfl
  have zz := hCont (.pointer (some ⟨w.heap.size + 1, 1, none⟩), .slice A1_1 l1_1.length c1_1, .bool r) _ ⟨⟨(blk_cell BPY4.out 0).trans rfl, (blk_cell BSY4.out 0).trans rfl, (blk_cell BSY4.out 1).trans rfl⟩, BPY4.out, BSY4.out, HBY4.out⟩
  simp only [putAll, Act.put, List.setIfInBounds_toArray, List.set_cons_zero, List.set_cons_succ] at zz
  exact zz
 rintro ⟨z0, z1, z2⟩ Z4 ⟨hHeld, hp, hs, hb⟩
 clear BPJ3 BSJ3 HBJ3
 have BPJ4 := am_ hp
 have BSJ4 := am_ hs
 have HBJ4 := am_ hb
 clear hp hs hb
 refine norm_ (a' := ?_) ?_ ?_
 rotate_left
 ·simp only [putAll, Act.put, List.setIfInBounds_toArray, List.set_cons_zero, List.set_cons_succ, i64_w, i32_w]
  rfl
 refine pure_ (i := 26) (N := some 4) (v := ?_) (a' := ?_) #[true, true, true, true, true, true, true, true, true, true, true, true, true, true, true, true, true, true, true, true, true, true, true, true, true, true, true] rfl rfl (any_of HT_.out (by kernel_rfl)) (fun _ _ _ h => h) (Or.inl ⟨by rfl, ?_⟩) ?_ ?_
 rotate_left
 ·intro w'
  go_simp
  with_reducible rfl
 rotate_left
 ·simp only [Act.put, List.setIfInBounds_toArray, List.set_cons_zero, List.set_cons_succ, i64_w, i32_w]
  rfl
 refine done_ (done_of HT_.out (by kernel_rfl)) ?_
 clear HT_ HW_ hHeld
 go_wp2_with fail
 refine bodyPost_ret (results_tmp rfl _ _ _) rfl ?_
 exact ⟨rfl, HBJ4.out⟩


end Go.Proofs.Ytefkbmhkhpekjaa.PB

namespace Go.Proofs.Ytefkbmhkhpekjaa.PB
open Go.RowKit Go.Proofs.YtefkbmhkhpekjaaW.PrintWords Go.Proofs.YtefkbmhkhpekjaaW.PrintLast Go.Proofs.YtefkbmhkhpekjaaW.PrintMore
attribute [local go_sem] max2_int min2_int max_two min_two max_three min_three max_four min_four   -- for this text's walks alone
open Go.Proofs.YtefkbmhkhpekjaaMine
set_option linter.unusedVariables false
set_option linter.unusedSimpArgs false

/-! ### slices_Clone_int_int: function 68 -/
def slices_Clone_int_int.f (l0 : List Int) : Option (List Int) := if l0.length < 1048577 then some l0 else none
set_option maxRecDepth 100000 in
set_option maxHeartbeats 800000 in
theorem slices_Clone_int_int.calls (A0 : Option Addr) (c0 : Nat) (l0 : List Int) (r : List Int) (w : World) (hr0 : Kd.C (Kd.int .i64) w A0 l0.length l0) (hc0 : l0.length ≤ c0) (h : slices_Clone_int_int.f l0 = some r) :
  Calls Try.prog 68 #[.slice A0 l0.length c0] w fun e w' => ∃ v0_ : Value, e = .returned (v0_) ∧ Kd.R (Kd.int .i64) 3 w' w.heap.size (fun _ => True) v0_ r ∧ Below w.heap.size w w' := by
 unfold slices_Clone_int_int.f at h
 split at h
 ·rename_i hl
  injection h with h; subst h
  have qT : ∀ (w : World) (a : Option Addr) (n c n' c' : Nat), (binOp .eql 22 (.slice a n c) (.slice none n' c')).run Try.prog w = .ok (.bool a.isNone) w := fun w a n c n' c' => Lib.run_eql_slice_nil w _ _ a n c n' c' Try.underlying22
  rcases A0 with _ | ad
  ·obtain rfl := nil_of_none hr0
   go_enter Try.func68, Try.ntmps68
   go_wp2_with fail
   go_ret
   exact ⟨_, rfl, Kd.R_nil _ _ _ _ _, Below.refl _ _⟩
  go_enter Try.func68, Try.ntmps68
  go_wp2_with (at_builtin; refine park ?_)
  refine ⟨?_⟩
  refine Kd.R_append_rows (Kd.int .i64) (Rr := (Kd.int .i64).K (w.alloc (Obj.cells #[] 3))) (w0 := w) w.heap.size (by rfl) (.tmp 5) (.tmp 6) 22 3 (.int .i64 0) 8 rfl Try.underlying22 info3 rfl (by decide) (by omega) (.slice (some ⟨w.heap.size, 0, none⟩) 0 0) [] l0 (some ad) l0.length c0 (fun _ => True) (fun _ => False) rfl rfl ?aO ?aR ?aK (fun _ h => h.elim) (fun _ _ => trivial) ?aB (by simp) ?aL ?_
  case aO => exact R_empty _ _ _ _ _ (Nat.le_refl _) trivial
  case aR => exact C_rows (Kd.C_below hr0 (below_alloc (Below.refl _ _) _))
  case aK => intro x cs hx; exact hx
  case aB => exact below_alloc (Below.refl _ _) _
  case aL => simp; omega
  intro v1 w1 ho1 hb1 _ _
  go_wp2_with fail
  go_ret
  exact ⟨_, rfl, by simpa using ho1, hb1⟩
 cases h


end Go.Proofs.Ytefkbmhkhpekjaa.PB

namespace Go.Proofs.Ytefkbmhkhpekjaa.PB
open Go.RowKit Go.Proofs.YtefkbmhkhpekjaaW.PrintWords Go.Proofs.YtefkbmhkhpekjaaW.PrintLast Go.Proofs.YtefkbmhkhpekjaaW.PrintMore
attribute [local go_sem] max2_int min2_int max_two min_two max_three min_three max_four min_four   -- for this text's walks alone
open Go.Proofs.YtefkbmhkhpekjaaMine
set_option linter.unusedVariables false
set_option linter.unusedSimpArgs false

theorem z61_1 {p : Prop} (h : p := by first | rfl | (simp; done) | (simp [*]; done)) : p := h
theorem z61_2 {p : Prop} (h : p := by first | (with_reducible assumption) | assumption) : p := h
theorem z61_3 {p : Prop} (h : p := by first | rfl | (simp [errW_none, errW_some] <;> rfl) | (simp [*, errW_none, errW_some] <;> rfl)) : p := h
theorem z61_4 {p : Prop} (h : p := by repeat (first | (with_reducible first | exact HB.out | apply below_alloc | apply pw_below_drewN | apply below_drew1) | exact HB.out)) : p := h
theorem z61_5 {p : Prop} (h : p := by first | exact Kd.R_nil _ _ _ _ _ | exact Kd.N_nil _ _ _ _ _ | exact Kd.V_nil _ _ _ _ _ | exact Kd.Q_nil _ _ _ _ _ | exact Kd.S_nil _ _ _ _ _) : p := h
theorem z61_6 {p : Prop} (h : p := by repeat (first | (with_reducible first | exact HB.out | apply below_alloc | apply pw_below_drewN | apply below_drew1 | refine below_set ?_ GE01.out) | exact HB.out)) : p := h
theorem z61_7 {p : Prop} (h : p := by repeat (first | (with_reducible first | exact HB.out | apply below_alloc | apply pw_below_drewN | apply below_drew1 | refine below_set ?_ GE01.out | refine below_set ?_ GE00.out) | exact HB.out)) : p := h
theorem z61_8 {p : Prop} (h : p := by repeat (first | (with_reducible first | exact HB.out | apply below_alloc | apply pw_below_drewN | apply below_drew1 | refine below_set ?_ GE01.out | refine below_set ?_ GE00.out | refine below_set ?_ GE02.out) | exact HB.out)) : p := h
theorem z61_9 {p : Prop} (h : p := by repeat (first | (with_reducible first | exact HB.out | apply below_alloc | apply pw_below_drewN | apply below_drew1 | refine below_set ?_ GE01.out | refine below_set ?_ GE00.out | refine below_set ?_ GE02.out | refine below_set ?_ GE03.out) | exact HB.out)) : p := h
/-! ### impl_TurnSeen: function 61 -/
mutual
def impl_TurnSeen.j0 : Nat → List Int → Bool → List (List (S85)) → List Int → List Int → Option (List Int × List Int × Bool)
  | 0, _, _, _, _, _ => none
  | k + 1, x2, x27, x92, x06, x94 => if x27 = true then (some (([] : List Int), ([] : List Int), false)) else (if 0 ≤ (x92.length : Int) then (if ((x92.length : Int) : Int).toNat ≤ 11728124029610 then (impl_TurnSeen.l0 k x2 (List.replicate ((x92.length : Int) : Int).toNat []) 0 x92 (x92.length : Int) 0 x06 x94) else (none)) else (none))
def impl_TurnSeen.l0 : Nat → List Int → List (List Int) → Int → List (List (S85)) → Int → Int → List Int → List Int → Option (List Int × List Int × Bool)
  | 0, _, _, _, _, _, _, _, _ => none
  | k + 1, x2, x8, x9, x34, x35, x36, x06, x94 => if x36 < x35 then (if 0 ≤ x36 then (if x36 < (x34.length : Int) then ((impl_readsOf.f k (rd_L7 x34 x36)).bind fun t08 => (if 0 ≤ x9 then (if x9 ≤ (wrap64 (x9 + t08)) then (if (wrap64 (x9 + t08)) ≤ (x06.length : Int) then (if x36 < (x8.length : Int) then (impl_TurnSeen.l0 k x2 (x8.set (x36 : Int).toNat ((x06.take ((wrap64 (x9 + t08)) : Int).toNat).drop (x9 : Int).toNat)) (wrap64 (x9 + t08)) x34 x35 (wrap64 (x36 + 1)) x06 x94) else (none)) else (none)) else (none)) else (none))) else (none)) else (none)) else ((slices_Clone_int_int.f x94).bind fun t09 => (impl_TurnSeen.l1 k x8 x2 (x2.length : Int) 0 ([] : List Int) t09))
def impl_TurnSeen.l1 : Nat → List (List Int) → List Int → Int → Int → List Int → List Int → Option (List Int × List Int × Bool)
  | 0, _, _, _, _, _, _ => none
  | k + 1, x8, x61, x62, x63, x05, x86 => if x63 < x62 then (if 0 ≤ x63 then (if x63 < (x61.length : Int) then (if 0 ≤ (rd x61 x63) then (if (rd x61 x63) < (x8.length : Int) then (if x05.length + (rd_L4 x8 (rd x61 x63)).length < 17592186044416 then (impl_TurnSeen.l1 k x8 x61 x62 (wrap64 (x63 + 1)) (x05 ++ (rd_L4 x8 (rd x61 x63))) x86) else (none)) else (none)) else (none)) else (none)) else (none)) else (some (x05, x86, true))
end
def impl_TurnSeen.f (k : Nat) (l0_0 : List (List (S85))) (l1_0 : List Int) (l1_1 : List Int) (l2 : List Int) : Option (List Int × List Int × Bool) := (impl_SeenOk.f k l0_0 l1_0 l1_1).bind fun t90 => (if t90 = true then ((impl_isRow.f k l2 (l0_0.length : Int)).bind fun t87 => (impl_TurnSeen.j0 k l2 (!t87) l0_0 l1_0 l1_1)) else (impl_TurnSeen.j0 k l2 true l0_0 l1_0 l1_1))
def impl_TurnSeen.T16 : Bool × List (List Nat × List Nat) := (true, [([], []), ([0], [0]), ([], []), ([], []), ([2, 3], [2, 3]), ([4], [4]), ([1, 5], [1, 5]), ([0, 1, 2, 3, 4, 5, 6], []), ([7, 6, 6, 0, 1, 2, 3, 4, 5, 6], [6, 7])])
def impl_TurnSeen.B16 : List Nat := [0, 1, 0, 0, 12, 28, 63, 127, 255]
theorem impl_TurnSeen.tab16 : rtab .any (opsOf Try.f61 16) = impl_TurnSeen.T16 := by kernel_rfl
theorem impl_TurnSeen.bits16 : waitsOk impl_TurnSeen.T16.2 impl_TurnSeen.B16 = true := by kernel_rfl
set_option maxHeartbeats 8000000 in
set_option maxRecDepth 100000 in
theorem impl_TurnSeen.calls (k : Nat) (A0_0 : Option Addr) (c0_0 : Nat) (l0_0 : List (List (S85))) (P1_0_ : Nat → Prop) (A1_0 : Option Addr) (c1_0 : Nat) (l1_0 : List Int) (A1_1 : Option Addr) (c1_1 : Nat) (l1_1 : List Int) (A2 : Option Addr) (c2 : Nat) (l2 : List Int) (r1 : List Int) (r2 : List Int) (r3 : Bool) (w : World) (hr0_0 : Kd.C (Kd.slice 85 k85) w A0_0 l0_0.length l0_0) (hc0_0 : l0_0.length ≤ c0_0) (hs1_0 : Kd.V (Kd.int .i64) 3 w w.heap.size (fun k_ => P1_0_ k_) (.slice A1_0 l1_0.length c1_0) l1_0) (hr1_1 : Kd.C (Kd.int .i64) w A1_1 l1_1.length l1_1) (hc1_1 : l1_1.length ≤ c1_1) (hr2 : Kd.C (Kd.int .i64) w A2 l2.length l2) (hc2 : l2.length ≤ c2) (h : impl_TurnSeen.f k l0_0 l1_0 l1_1 l2 = some (r1, r2, r3)) :
  Calls Try.prog 61 #[.agg #[.slice A0_0 l0_0.length c0_0], .agg #[.slice A1_0 l1_0.length c1_0, .slice A1_1 l1_1.length c1_1], .slice A2 l2.length c2] w fun e w' => ∃ v0_ v1_ : Value, e = .returned (.tuple #[.agg #[v0_, v1_], .bool r3]) ∧ Kd.R (Kd.int .i64) 3 w' w.heap.size (fun k_ => (w.heap.size ≤ k_) ∧ some k_ ≠ (v1_ : Value).ownBlock) v0_ r1 ∧ Kd.R (Kd.int .i64) 3 w' w.heap.size (fun k_ => (w.heap.size ≤ k_) ∧ some k_ ≠ (v0_ : Value).ownBlock) v1_ r2 ∧ Below w.heap.size w w' := by
 have hu35 := Try.underlying35
 have hu24 := Try.underlying24
 have HR0_0 := am_ hr0_0
 have HC0_0 := am_ hc0_0
 clear hr0_0 hc0_0
 have HO1_0 := am_ (show Kd.V (Kd.int .i64) 3 w w.heap.size (fun k_ => (P1_0_ k_ ∨ w.heap.size ≤ k_)) (.slice A1_0 l1_0.length c1_0) l1_0 from Kd.V_mono hs1_0 (fun k_ hk => .inl hk))
 have HR1_1 := am_ hr1_1
 have HC1_1 := am_ hc1_1
 clear hr1_1 hc1_1
 have HR2 := am_ hr2
 have HC2 := am_ hc2
 clear hr2 hc2
 have HB := am_ (Below.refl w.heap.size w)
 have H : ((impl_SeenOk.f k l0_0 l1_0 l1_1).bind fun t90 => (if t90 = true then ((impl_isRow.f k l2 (l0_0.length : Int)).bind fun t87 => (impl_TurnSeen.j0 k l2 (!t87) l0_0 l1_0 l1_1)) else (impl_TurnSeen.j0 k l2 true l0_0 l1_0 l1_1))) = some (r1, r2, r3) := h
 clear h
 have HC4 := am_ H
 clear H
 go_enter Try.func61, Try.ntmps61
 go_upto_region 1 with (first | ((with_reducible refine gate_dst (N := 3) rfl ?_); (try (refine gate_guard (by rfl) ?_; dsimp only)); refine box_event ?hg (N := 3) ?hd (cs := #[.slice A0_0 l0_0.length c0_0]) (t := 35) ?hr ?_; (case hd => rfl); (case hg => rfl); (case hr => first | (go_simp; done) | (go_simp; rfl)); intro gb01 hg w5 hbox hb; have n0_ := am_ (Kd.V_below (Kd.V_elderB (vu HO1_0.out) gb01 (Nat.le_of_eq hg.symm)) hb); have n1_ := am_ (below_step z61_4 hb); have n2_ := am_ (hbox); have n3_ := am_ (by rw [hg]; exact (below_size z61_4) : w.heap.size ≤ gb01); have n4_ := am_ (by rw [hg]; exact (below_size z61_4) : w.heap.size ≤ gb01); clear HO1_0 HB; have HO1_0 := n0_; have HB := n1_; have BK01 := n2_; have GW01 := n3_; have GE01 := n4_; clear n0_ n1_ n2_ n3_ n4_; clear hb hbox hg) | ((with_reducible refine gate_dst (N := 4) rfl ?_); (try (refine gate_guard (by rfl) ?_; dsimp only)); refine box_event ?hg (N := 4) ?hd (cs := #[.slice A1_0 l1_0.length c1_0, .slice A1_1 l1_1.length c1_1]) (t := 24) ?hr ?_; (case hd => rfl); (case hg => rfl); (case hr => first | (go_simp; done) | (go_simp; rfl)); intro gb00 hg w6 hbox hb; have n0_ := am_ (Kd.V_below (Kd.V_elderB (vu HO1_0.out) gb00 (Nat.le_of_eq hg.symm)) hb); have n1_ := am_ (blk_below (bu BK01.out) hb); have n2_ := am_ (below_step z61_6 hb); have n3_ := am_ (hbox); have n4_ := am_ (by rw [hg]; exact (below_size z61_6) : w.heap.size ≤ gb00); have n5_ := am_ (by rw [hg]; exact (below_size z61_6) : w.heap.size ≤ gb00); have n6_ := am_ (by rw [hg]; exact Nat.ne_of_lt (blk_lt (bu BK01.out)) : gb01 ≠ gb00); have n7_ := am_ (by rw [hg]; exact Nat.ne_of_gt (blk_lt (bu BK01.out)) : gb00 ≠ gb01); clear HO1_0 BK01 HB; have HO1_0 := n0_; have BK01 := n1_; have HB := n2_; have BK00 := n3_; have GW00 := n4_; have GE00 := n5_; have NB01_00 := n6_; have NB00_01 := n7_; clear n0_ n1_ n2_ n3_ n4_ n5_ n6_ n7_; clear hb hbox hg) | ((with_reducible refine gate_dst (N := 6) rfl ?_); (try (refine gate_guard (by rfl) ?_; dsimp only)); refine box_event ?hg (N := 6) ?hd (cs := #[.slice none 0 0, .slice none 0 0]) (t := 24) ?hr ?_; (case hd => rfl); (case hg => rfl); (case hr => first | (go_simp; done) | (go_simp; rfl)); intro gb02 hg w7 hbox hb; have n0_ := am_ (Kd.V_below (Kd.V_elderB (vu HO1_0.out) gb02 (Nat.le_of_eq hg.symm)) hb); have n1_ := am_ (blk_below (bu BK01.out) hb); have n2_ := am_ (blk_below (bu BK00.out) hb); have n3_ := am_ (below_step z61_7 hb); have n4_ := am_ (hbox); have n5_ := am_ (by rw [hg]; exact (below_size z61_7) : w.heap.size ≤ gb02); have n6_ := am_ (by rw [hg]; exact (below_size z61_7) : w.heap.size ≤ gb02); have n7_ := am_ (by rw [hg]; exact Nat.ne_of_lt (blk_lt (bu BK01.out)) : gb01 ≠ gb02); have n8_ := am_ (by rw [hg]; exact Nat.ne_of_gt (blk_lt (bu BK01.out)) : gb02 ≠ gb01); have n9_ := am_ (by rw [hg]; exact Nat.ne_of_lt (blk_lt (bu BK00.out)) : gb00 ≠ gb02); have n10_ := am_ (by rw [hg]; exact Nat.ne_of_gt (blk_lt (bu BK00.out)) : gb02 ≠ gb00); clear HO1_0 BK01 BK00 HB; have HO1_0 := n0_; have BK01 := n1_; have BK00 := n2_; have HB := n3_; have BK02 := n4_; have GW02 := n5_; have GE02 := n6_; have NB01_02 := n7_; have NB02_01 := n8_; have NB00_02 := n9_; have NB02_00 := n10_; clear n0_ n1_ n2_ n3_ n4_ n5_ n6_ n7_ n8_ n9_ n10_; clear hb hbox hg))
 (try simp only [Act.put, List.setIfInBounds_toArray, List.set_cons_zero, List.set_cons_succ])
 go_cut [27] (fun v27 wc => ∃ (kq : Nat) (x27_3 : Bool), v27 = .bool x27_3 ∧ Aside0 (impl_TurnSeen.j0 kq l2 x27_3 l0_0 l1_0 l1_1 = some (r1, r2, r3)) ∧ Aside0 (kq ≤ k) ∧ Aside0 (Kd.V (Kd.int .i64) 3 wc w.heap.size (fun k_ => (P1_0_ k_ ∨ w.heap.size ≤ k_) ∧ k_ ≠ gb01 ∧ k_ ≠ gb00 ∧ k_ ≠ gb02) (.slice A1_0 l1_0.length c1_0) l1_0) ∧ Aside0 (wc.heap[gb01]? = some (.cells #[(.slice A0_0 l0_0.length c0_0)] 35 (0, 0))) ∧ Aside0 (wc.heap[gb00]? = some (.cells #[(.slice A1_0 l1_0.length c1_0), (.slice A1_1 l1_1.length c1_1)] 24 (0, 0))) ∧ Aside0 (wc.heap[gb02]? = some (.cells #[(.slice none 0 0), (.slice none 0 0)] 24 (0, 0))) ∧ Aside0 (Below w.heap.size w wc))
 case first =>
  have H := HC4.out
  clear HC4
  replace H := Option.bind_eq_some_iff.mp H
  obtain ⟨t90, A80, H⟩ := H
  replace H : (if t90 = true then ((impl_isRow.f k l2 (l0_0.length : Int)).bind fun t87 => (impl_TurnSeen.j0 k l2 (!t87) l0_0 l1_0 l1_1)) else (impl_TurnSeen.j0 k l2 true l0_0 l1_0 l1_1)) = some (r1, r2, r3) := H
  have A8 := am_ A80
  clear A80
  by_cases c9 : t90 = true
  ·subst c9
   have H1 : ((impl_isRow.f k l2 (l0_0.length : Int)).bind fun t87 => (impl_TurnSeen.j0 k l2 (!t87) l0_0 l1_0 l1_1)) = some (r1, r2, r3) := by rw [if_pos rfl] at H; exact H
   clear H
   have H := H1
   clear H1
   replace H := Option.bind_eq_some_iff.mp H
   obtain ⟨t87, A100, H⟩ := H
   replace H : (impl_TurnSeen.j0 k l2 (!t87) l0_0 l1_0 l1_1) = some (r1, r2, r3) := H
   have A10 := am_ A100
   clear A100
   have H' := am_ H
   clear H
   have hnb11 := NB01_00.out
   have hnc11 := NB00_01.out
   have hnb12 := NB01_02.out
   have hnc12 := NB02_01.out
   have hcz13_0 := cf0 BK01.out
   have hfz13_0 := blk_frozen BK01.out 0
   have hnb14 := NB00_02.out
   have hnc14 := NB02_00.out
   have hcz15_0 := cf0 BK00.out
   have hcz15_1 := cf1 BK00.out
   have hfz15_0 := blk_frozen BK00.out 0
   have hfz15_1 := blk_frozen BK00.out 1
   go_wp2_with (first | ((with_reducible refine gate_callee (f := 63) rfl ?_); refine goesL_ (some 18) rfl rfl Try.func63 (by kernel_rfl) rfl #[.agg #[.slice A0_0 l0_0.length c0_0], .agg #[.slice A1_0 l1_0.length c1_0, .slice A1_1 l1_1.length c1_1]] rfl (by (try simp only [List.map_toArray, List.map_cons, List.map_nil]); first | done | rfl | (simp only [List.length_drop, List.length_take]; rfl)) ?_; (with_reducible refine (impl_SeenOk.calls k _ _ l0_0 _ _ l1_0 _ _ l1_1 true _ ?side1 ?side2 ?side3 ?side4 ?side5 ?side6 A8.out).mono ?_); (case side1 => repeat (first | exact (Kd.C_below HR0_0.out HB.out) | (with_reducible refine Kd.C_alloc ?_ _) | (with_reducible refine Kd.C_drewN ?_ _) | (with_reducible refine Kd.C_drew ?_))); (case side2 => exact HC0_0.out); (case side3 => repeat (first | exact (Kd.V_reads' HO1_0.out).2.2 | (with_reducible refine Kd.C_alloc ?_ _) | (with_reducible refine Kd.C_drewN ?_ _) | (with_reducible refine Kd.C_drew ?_))); (case side4 => exact (Kd.V_reads' HO1_0.out).2.1); (case side5 => repeat (first | exact (Kd.C_below HR1_1.out HB.out) | (with_reducible refine Kd.C_alloc ?_ _) | (with_reducible refine Kd.C_drewN ?_ _) | (with_reducible refine Kd.C_drew ?_))); (case side6 => exact HC1_1.out); rintro e w16 ⟨rfl, hb⟩; refine ⟨_, rfl, ?_⟩; replace HO1_0 := am_ (Kd.V_below (vu HO1_0.out) hb); replace BK01 := am_ (blk_below (bu BK01.out) hb); replace BK00 := am_ (blk_below (bu BK00.out) hb); replace BK02 := am_ (blk_below (bu BK02.out) hb); replace HB := am_ (below_step z61_8 hb); (try clear hb); (try clear hb2); (try clear hk); (try clear hi); have hcz17_0 := cf0 BK01.out; have hfz17_0 := blk_frozen BK01.out 0) | (go_at_call 97; (with_reducible refine (impl_isRow.calls k _ _ l2 (l0_0.length : Int) t87 _ ?side1 ?side2 A10.out).mono ?_); (case side1 => repeat (first | exact (Kd.C_below HR2.out HB.out) | (with_reducible refine Kd.C_alloc ?_ _) | (with_reducible refine Kd.C_drewN ?_ _) | (with_reducible refine Kd.C_drew ?_))); (case side2 => exact HC2.out); rintro e w' ⟨rfl, ⟨nd, rfl⟩⟩))
   go_meet
   case rel => exact ⟨_, (!t87), z61_1, H', ⟨by first | omega | exact Nat.le_refl _⟩, ⟨vu (Kd.V_mono HO1_0.out (fun _ hk => ⟨hk.1.1.1, ⟨hk.1.1.2, ⟨hk.1.2, hk.2⟩⟩⟩))⟩, ⟨bu BK01.out⟩, ⟨bu BK00.out⟩, ⟨bu BK02.out⟩, ⟨z61_8⟩⟩
  replace c9 := Bool.eq_false_iff.mpr c9
  subst c9
  have H1 : (impl_TurnSeen.j0 k l2 true l0_0 l1_0 l1_1) = some (r1, r2, r3) := by rw [if_neg (show ¬ (false = true) by decide)] at H; exact H
  clear H
  have H := H1
  clear H1
  have H' := am_ H
  clear H
  have hnb18 := NB01_00.out
  have hnc18 := NB00_01.out
  have hnb19 := NB01_02.out
  have hnc19 := NB02_01.out
  have hcz20_0 := cf0 BK01.out
  have hfz20_0 := blk_frozen BK01.out 0
  have hnb21 := NB00_02.out
  have hnc21 := NB02_00.out
  have hcz22_0 := cf0 BK00.out
  have hcz22_1 := cf1 BK00.out
  have hfz22_0 := blk_frozen BK00.out 0
  have hfz22_1 := blk_frozen BK00.out 1
  go_wp2_with (first | ((with_reducible refine gate_callee (f := 63) rfl ?_); refine goesL_ (some 18) rfl rfl Try.func63 (by kernel_rfl) rfl #[.agg #[.slice A0_0 l0_0.length c0_0], .agg #[.slice A1_0 l1_0.length c1_0, .slice A1_1 l1_1.length c1_1]] rfl (by (try simp only [List.map_toArray, List.map_cons, List.map_nil]); first | done | rfl | (simp only [List.length_drop, List.length_take]; rfl)) ?_; (with_reducible refine (impl_SeenOk.calls k _ _ l0_0 _ _ l1_0 _ _ l1_1 false _ ?side1 ?side2 ?side3 ?side4 ?side5 ?side6 A8.out).mono ?_); (case side1 => repeat (first | exact (Kd.C_below HR0_0.out HB.out) | (with_reducible refine Kd.C_alloc ?_ _) | (with_reducible refine Kd.C_drewN ?_ _) | (with_reducible refine Kd.C_drew ?_))); (case side2 => exact HC0_0.out); (case side3 => repeat (first | exact (Kd.V_reads' HO1_0.out).2.2 | (with_reducible refine Kd.C_alloc ?_ _) | (with_reducible refine Kd.C_drewN ?_ _) | (with_reducible refine Kd.C_drew ?_))); (case side4 => exact (Kd.V_reads' HO1_0.out).2.1); (case side5 => repeat (first | exact (Kd.C_below HR1_1.out HB.out) | (with_reducible refine Kd.C_alloc ?_ _) | (with_reducible refine Kd.C_drewN ?_ _) | (with_reducible refine Kd.C_drew ?_))); (case side6 => exact HC1_1.out); rintro e w23 ⟨rfl, hb⟩; refine ⟨_, rfl, ?_⟩; replace HO1_0 := am_ (Kd.V_below (vu HO1_0.out) hb); replace BK01 := am_ (blk_below (bu BK01.out) hb); replace BK00 := am_ (blk_below (bu BK00.out) hb); replace BK02 := am_ (blk_below (bu BK02.out) hb); replace HB := am_ (below_step z61_8 hb); (try clear hb); (try clear hb2); (try clear hk); (try clear hi)))
  go_meet
  case rel => exact ⟨_, (true), z61_1, H', ⟨by first | omega | exact Nat.le_refl _⟩, ⟨vu (Kd.V_mono HO1_0.out (fun _ hk => ⟨hk.1.1.1, ⟨hk.1.1.2, ⟨hk.1.2, hk.2⟩⟩⟩))⟩, ⟨bu BK01.out⟩, ⟨bu BK00.out⟩, ⟨bu BK02.out⟩, ⟨z61_8⟩⟩
 case rest =>
  clear HC4
  obtain ⟨kq, x27_3, rfl, HA, HJ3, HO_06, BK01, BK00, BK02, HB⟩ := hcut
  cases kq with
  | zero => exact absurd HA.out (by simp [impl_TurnSeen.j0])
  | succ kj3 =>
   have H := HA.out
   clear HA
   simp only [impl_TurnSeen.j0] at H
   by_cases c24 : x27_3 = true
   ·subst c24
    have H1 : (some (([] : List Int), ([] : List Int), false)) = some (r1, r2, r3) := by rw [if_pos rfl] at H; exact H
    clear H
    have H := H1
    clear H1
    simp only [Option.some.injEq, Prod.mk.injEq] at H
    obtain ⟨rfl, rfl, rfl⟩ := H
    have hnb25 := NB02_01.out
    have hnc25 := NB01_02.out
    have hnb26 := NB02_00.out
    have hnc26 := NB00_02.out
    have hcz27_0 := cf0 BK02.out
    have hcz27_1 := cf1 BK02.out
    have hfz27_0 := blk_frozen BK02.out 0
    have hfz27_1 := blk_frozen BK02.out 1
    go_wp2
    refine bodyPost_ret (results_ct rfl _ _ gb02 24 #[.slice none 0 0, .slice none 0 0] (0, 0) _ rfl (by (with_reducible repeat (first | refine blk_drewN ?_ _ | refine blk_drew ?_ | refine blk_alloc ?_ _)); refine blk_put (cs := #[.slice none 0 0, .slice none 0 0]) ?_ 1 _ rfl; (with_reducible repeat (first | refine blk_drewN ?_ _ | refine blk_drew ?_ | refine blk_alloc ?_ _)); refine blk_put (cs := #[.slice none 0 0, .slice none 0 0]) ?_ 0 _ rfl; (with_reducible repeat (first | refine blk_drewN ?_ _ | refine blk_drew ?_ | refine blk_alloc ?_ _)); exact BK02.out) Try.underlying24 rfl (by kernel_rfl)) rfl ?_
    exact ⟨_, _, z61_3, z61_5, z61_5, z61_8⟩
   replace c24 := Bool.eq_false_iff.mpr c24
   subst c24
   have H1 : (if 0 ≤ (l0_0.length : Int) then (if ((l0_0.length : Int) : Int).toNat ≤ 11728124029610 then (impl_TurnSeen.l0 kj3 l2 (List.replicate ((l0_0.length : Int) : Int).toNat []) 0 l0_0 (l0_0.length : Int) 0 l1_0 l1_1) else (none)) else (none)) = some (r1, r2, r3) := by rw [if_neg (show ¬ (false = true) by decide)] at H; exact H
   clear H
   have H := H1
   clear H1
   by_cases c28 : 0 ≤ (l0_0.length : Int)
   ·rw [if_pos c28] at H
    have c28b0 := eq_true c28
    have c28b1 : decide (0 ≤ (l0_0.length : Int)) = true := decide_eq_true c28
    clear c28
    by_cases c29 : ((l0_0.length : Int) : Int).toNat ≤ 11728124029610
    ·rw [if_pos c29] at H
     have c29b0 := eq_true c29
     have c29b1 : decide (((l0_0.length : Int) : Int).toNat ≤ 11728124029610) = true := decide_eq_true c29
     clear c29
     obtain ⟨y88, hy88⟩ : ∃ y_ : List (List Int), y_ = (List.replicate ((l0_0.length : Int) : Int).toNat []) := ⟨_, rfl⟩
     replace H : (impl_TurnSeen.l0 kj3 l2 y88 0 l0_0 (l0_0.length : Int) 0 l1_0 l1_1) = some (r1, r2, r3) := by first | (rw [hy88]; with_reducible exact H) | (have H2_ := (Option.bind_some _ _).symm.trans H; rw [hy88]; with_reducible exact H2_) | (have H2_ := (Option.bind_some _ _).symm.trans H; with_reducible exact H2_) | with_reducible exact H | (rw [hy88]; exact H) | exact H
     have Ny88 := am_ hy88
     clear hy88
     have H' := am_ H
     clear H
     have hnb30 := NB01_00.out
     have hnc30 := NB00_01.out
     have hnb31 := NB01_02.out
     have hnc31 := NB02_01.out
     have hcz32_0 := cf0 BK01.out
     have hfz32_0 := blk_frozen BK01.out 0
     go_wp2_with (first | ((with_reducible refine gate_dst (N := 32) rfl ?_); (try (refine gate_guard (by rfl) ?_; dsimp only)); refine Kd.N_make (Kd.slice 3 (Kd.int .i64)) _ 22 rfl (N' := 32) rfl 109 _ _ rfl (l0_0.length : Int) rfl rfl Try.underlying109 (.slice none 0 0) 24 info22 rfl (by decide) (by omega) [] (ok := fun k_ => wc.heap.size ≤ k_) (okp := fun _ => False) (Kd.FK_slice_mk (Nat.le_refl _) (Kd.F_nil _ _ _)) (fun _ hk => hk.elim) (Nat.le_refl _) (of_decide_eq_true z61_2) (Nat.le_trans (Nat.mul_le_mul_right _ (of_decide_eq_true z61_2 : (l0_0.length : Int).toNat ≤ 11728124029610)) (by omega)) (Below.refl _ _) (Nat.le_refl _) ?_; intro v95 w33 ho34 hb hg_ hnew_; clear hg_ hnew_; (first | rw [← Ny88.out] at ho34 | (simp only [Int.reduceToNat] at ho34; rw [← Ny88.out] at ho34)); replace HO_06 := am_ (Kd.V_elder' (vu HO_06.out) (by first | exact Kd.N_base ho34 | exact Kd.S_base ho34) hb); have HO97 := am_ (Kd.N_lower (Kd.N_mono (ok' := fun k_ => (P1_0_ k_ ∨ w.heap.size ≤ k_) ∧ k_ ≠ gb01 ∧ k_ ≠ gb00 ∧ k_ ≠ gb02) ho34 (fun k_ hk_ => ⟨(.inr (Nat.le_trans (below_size z61_8) hk_)), (Kd.freshB (bu BK01.out) k_ hk_), (Kd.freshB (bu BK00.out) k_ hk_), (Kd.freshB (bu BK02.out) k_ hk_)⟩)) (below_size z61_8)); replace BK01 := am_ (blk_below (bu BK01.out) hb); replace BK00 := am_ (blk_below (bu BK00.out) hb); replace BK02 := am_ (blk_below (bu BK02.out) hb); replace HB := am_ (below_step z61_8 hb); clear hb ho34; have hcz35_0 := cf0 BK01.out; have hfz35_0 := blk_frozen BK01.out 0))
     go_loopg [9, 36] kj3 (fun kq v9 v36 w' => ∃ (x8_2 : List (List Int)) (x9_2 : Int) (x36_2 : Int), v9 = .int .i64 x9_2 ∧ v36 = .int .i64 x36_2 ∧ Aside0 (impl_TurnSeen.l0 kq l2 x8_2 x9_2 l0_0 (l0_0.length : Int) x36_2 l1_0 l1_1 = some (r1, r2, r3)) ∧ Aside0 (kq ≤ kj3) ∧ Aside0 (Kd.N (Kd.slice 3 (Kd.int .i64)) 22 w' w.heap.size (fun k_ => (P1_0_ k_ ∨ w.heap.size ≤ k_) ∧ k_ ≠ gb01 ∧ k_ ≠ gb00 ∧ k_ ≠ gb02) v95 x8_2) ∧ Aside0 (Kd.V (Kd.int .i64) 3 w' w.heap.size (fun k_ => (P1_0_ k_ ∨ w.heap.size ≤ k_) ∧ some k_ ≠ (v95 : Value).ownBlock ∧ k_ ≠ gb01 ∧ k_ ≠ gb00 ∧ k_ ≠ gb02) (.slice A1_0 l1_0.length c1_0) l1_0) ∧ Aside0 (w'.heap[gb01]? = some (.cells #[(.slice A0_0 l0_0.length c0_0)] 35 (0, 0))) ∧ Aside0 (w'.heap[gb00]? = some (.cells #[(.slice A1_0 l1_0.length c1_0), (.slice A1_1 l1_1.length c1_1)] 24 (0, 0))) ∧ Aside0 (w'.heap[gb02]? = some (.cells #[(.slice none 0 0), (.slice none 0 0)] 24 (0, 0))) ∧ Aside0 (Below w.heap.size w w'))
     case atStart => exact ⟨(y88), (0), (0), z61_1, z61_1, H', ⟨Nat.le_refl _⟩, ⟨nu HO97.out⟩, ⟨vu (Kd.V_mono HO_06.out (fun _ hk => ⟨hk.1.1, ⟨hk.2, ⟨hk.1.2.1, ⟨hk.1.2.2.1, hk.1.2.2.2⟩⟩⟩⟩))⟩, ⟨bu BK01.out⟩, ⟨bu BK00.out⟩, ⟨bu BK02.out⟩, ⟨z61_8⟩⟩
     case round =>
      clear H'
      obtain ⟨x8_2, x9_2, x36_2, rfl, rfl, HA, HK2, HO_8, HO_06, BK01, BK00, BK02, HB⟩ := hrel
      cases gk with
      | zero => exact absurd HA.out (by simp [impl_TurnSeen.l0])
      | succ k2 =>
       have H := HA.out
       clear HA
       simp only [impl_TurnSeen.l0] at H
       by_cases c36 : x36_2 < (l0_0.length : Int)
       ·rw [if_pos c36] at H
        have c36b0 : decide (x36_2 < (l0_0.length : Int)) = true := decide_eq_true c36
        clear c36
        by_cases c37 : 0 ≤ x36_2
        ·rw [if_pos c37] at H
         have c37b0 : decide (0 ≤ x36_2) = true := decide_eq_true c37
         clear c37
         by_cases c38 : x36_2 < (l0_0.length : Int)
         ·rw [if_pos c38] at H
          have c38b0 : decide (x36_2 < (l0_0.length : Int)) = true := decide_eq_true c38
          clear c38
          replace H := Option.bind_eq_some_iff.mp H
          obtain ⟨t08, A390, H⟩ := H
          replace H : (if 0 ≤ x9_2 then (if x9_2 ≤ (wrap64 (x9_2 + t08)) then (if (wrap64 (x9_2 + t08)) ≤ (l1_0.length : Int) then (if x36_2 < (x8_2.length : Int) then (impl_TurnSeen.l0 k2 l2 (x8_2.set (x36_2 : Int).toNat ((l1_0.take ((wrap64 (x9_2 + t08)) : Int).toNat).drop (x9_2 : Int).toNat)) (wrap64 (x9_2 + t08)) l0_0 (l0_0.length : Int) (wrap64 (x36_2 + 1)) l1_0 l1_1) else (none)) else (none)) else (none)) else (none)) = some (r1, r2, r3) := H
          have A39 := am_ A390
          clear A390
          by_cases c40 : 0 ≤ x9_2
          ·rw [if_pos c40] at H
           have c40b0 := eq_true c40
           have c40b1 : decide (0 ≤ x9_2) = true := decide_eq_true c40
           clear c40
           by_cases c41 : x9_2 ≤ (wrap64 (x9_2 + t08))
           ·rw [if_pos c41] at H
            have c41b0 := eq_true c41
            have c41b1 : decide (x9_2 ≤ (wrap64 (x9_2 + t08))) = true := decide_eq_true c41
            by_cases c42 : (wrap64 (x9_2 + t08)) ≤ (l1_0.length : Int)
            ·rw [if_pos c42] at H
             have c42b0 := eq_true c42
             have c42b1 : decide ((wrap64 (x9_2 + t08)) ≤ (l1_0.length : Int)) = true := decide_eq_true c42
             obtain ⟨y82, hy82⟩ : ∃ y_ : List Int, y_ = ((l1_0.take ((wrap64 (x9_2 + t08)) : Int).toNat).drop (x9_2 : Int).toNat) := ⟨_, rfl⟩
             replace H : (if x36_2 < (x8_2.length : Int) then (impl_TurnSeen.l0 k2 l2 (x8_2.set (x36_2 : Int).toNat y82) (wrap64 (x9_2 + t08)) l0_0 (l0_0.length : Int) (wrap64 (x36_2 + 1)) l1_0 l1_1) else (none)) = some (r1, r2, r3) := by first | (rw [hy82]; with_reducible exact H) | (have H2_ := (Option.bind_some _ _).symm.trans H; rw [hy82]; with_reducible exact H2_) | (have H2_ := (Option.bind_some _ _).symm.trans H; with_reducible exact H2_) | with_reducible exact H | (rw [hy82]; exact H) | exact H
             have Ny82 := am_ hy82
             clear hy82
             by_cases c43 : x36_2 < (x8_2.length : Int)
             ·rw [if_pos c43] at H
              have c43b0 : decide (x36_2 < (x8_2.length : Int)) = true := decide_eq_true c43
              clear c43
              obtain ⟨y89, hy89⟩ : ∃ y_ : List (List Int), y_ = (x8_2.set (x36_2 : Int).toNat y82) := ⟨_, rfl⟩
              replace H : (impl_TurnSeen.l0 k2 l2 y89 (wrap64 (x9_2 + t08)) l0_0 (l0_0.length : Int) (wrap64 (x36_2 + 1)) l1_0 l1_1) = some (r1, r2, r3) := by first | (rw [hy89]; with_reducible exact H) | (have H2_ := (Option.bind_some _ _).symm.trans H; rw [hy89]; with_reducible exact H2_) | (have H2_ := (Option.bind_some _ _).symm.trans H; with_reducible exact H2_) | with_reducible exact H | (rw [hy89]; exact H) | exact H
              have Ny89 := am_ hy89
              clear hy89
              have H' := am_ H
              clear H
              have p07 : 0 ≤ (x36_2 : Int) := of_decide_eq_true z61_2
              have q07 : x36_2 < (l0_0.length : Int) := of_decide_eq_true z61_2
              obtain ⟨ad07, A07_0, c07_0, e07, hx07_0, hl07_0, hi07_0⟩ := at_L7 HR0_0.out x36_2 p07 q07
              cases e07
              replace hx07_0 := (HB.out.cell (World.block_lt_of_cell? w _ hx07_0)).trans hx07_0
              have HR07_0 := am_ hi07_0
              have HC07_0 := am_ hl07_0
              clear hi07_0 hl07_0
              replace p07 := eq_true p07
              replace q07 := eq_true q07
              go_wp2_with (first | ((with_reducible refine gate_callee (f := 91) rfl ?_); refine goesL_ (some 42) rfl rfl Try.func91 (by kernel_rfl) rfl #[.slice A07_0 (rd_L7 l0_0 x36_2).length c07_0] rfl (by (try simp only [List.map_toArray, List.map_cons, List.map_nil]); first | done | rfl | (simp only [List.length_drop, List.length_take]; rfl)) ?_; (with_reducible refine (impl_readsOf.calls k2 _ _ (rd_L7 l0_0 x36_2) t08 _ ?side1 ?side2 A39.out).mono ?_); (case side1 => repeat (first | exact (Kd.C_below HR07_0.out HB.out) | (with_reducible refine Kd.C_alloc ?_ _) | (with_reducible refine Kd.C_drewN ?_ _) | (with_reducible refine Kd.C_drew ?_))); (case side2 => exact HC07_0.out); rintro e w45 ⟨rfl, hb⟩; refine ⟨_, rfl, ?_⟩; replace HO_8 := am_ (Kd.N_below (nu HO_8.out) hb); replace HO_06 := am_ (Kd.V_below (vu HO_06.out) hb); replace BK01 := am_ (blk_below (bu BK01.out) hb); replace BK00 := am_ (blk_below (bu BK00.out) hb); replace BK02 := am_ (blk_below (bu BK02.out) hb); replace HB := am_ (below_step z61_8 hb); (try clear hb); (try clear hb2); (try clear hk); (try clear hi); have hnb46 := NB00_01.out; have hnc46 := NB01_00.out; have hnb47 := NB00_02.out; have hnc47 := NB02_00.out; have hcz48_0 := cf0 BK00.out; have hcz48_1 := cf1 BK00.out; have hfz48_0 := blk_frozen BK00.out 0; have hfz48_1 := blk_frozen BK00.out 1; have q49 : ((wrap64 (x9_2 + t08)) : Int) ≤ ((l1_0.length : Int) : Int) := of_decide_eq_true z61_2; obtain ⟨i049, hi049, _, hsz49, _⟩ := info_parts info3; have hroom49 : l1_0.length ≤ c1_0 := (Kd.V_reads' HO_06.out).2.1; have hC49 : Kd.F (Kd.int .i64) _ _ A1_0 l1_0.length l1_0 := (Kd.V_at (base := w.heap.size) HO_06.out).2.2; have ql49 : (x9_2 : Int) ≤ ((wrap64 (x9_2 + t08)) : Int) := of_decide_eq_true z61_2; have q049 : (0 : Int) ≤ (x9_2 : Int) := of_decide_eq_true z61_2; have hcut49 := cut_mid (P := Try.prog) 22 3 .i64 .i64 Try.underlying22 hi049 1 hsz49 A1_0 l1_0.length c1_0 x9_2 (wrap64 (x9_2 + t08)) q049 ql49 q49 hroom49; have hr49 := Kd.F_mid (lo := (x9_2 : Int).toNat) (hi := ((wrap64 (x9_2 + t08)) : Int).toNat) (c := c1_0) hC49 (by omega) (by omega) hroom49; obtain ⟨A49, hA49⟩ : ∃ A1, A1 = (if c1_0 = (x9_2 : Int).toNat then A1_0 else (A1_0 : Option Addr).map (·.add ((x9_2 : Int).toNat * 1))) := ⟨_, rfl⟩; obtain ⟨c49, hc49⟩ : ∃ c1, c1 = c1_0 - (x9_2 : Int).toNat := ⟨_, rfl⟩; have hy49 : y82.length = ((wrap64 (x9_2 + t08)) : Int).toNat - (x9_2 : Int).toNat := (by rw [Ny82.out, List.length_drop, List.length_take] <;> omega); rw [show ((l1_0).take ((wrap64 (x9_2 + t08)) : Int).toNat).drop (x9_2 : Int).toNat = y82 from Ny82.out.symm] at hr49; replace hr49 : Kd.F (Kd.int .i64) _ _ A49 y82.length y82 := (by rw [hA49]; exact hr49); rw [← hy49, ← hA49, ← hc49] at hcut49; have HO91 := am_ (show Kd.V (Kd.int .i64) 3 _ w.heap.size _ (.slice A49 y82.length c49) y82 from Kd.V_mk (by rw [hy49, hc49]; exact Nat.sub_le_sub_right (Nat.le_trans (by omega) hroom49) _) hr49); have HC91 := am_ (show y82.length ≤ c49 from by rw [hy49, hc49]; exact Nat.sub_le_sub_right (Nat.le_trans (by omega) hroom49) _); clear hr49 hC49 hroom49 hi049 hsz49 hc49; have KY49 := am_ hy49; have KA49 := am_ hA49; clear hy49 hA49; replace q49 := eq_true q49; have p44 : 0 ≤ (x36_2 : Int) := of_decide_eq_true z61_2; have q44 : (x36_2 : Int) < ((x8_2.length : Int) : Int) := of_decide_eq_true z61_2; obtain ⟨go44, co44, eo44, gb44, gl44, cl44, HG44⟩ := Kd.N_form HO_8.out (by omega); (first | cases eo44 | (injection eo44 with ea_ en_ ec_; (first | subst ea_ | (injection ea_ with ea_; subst ea_)); subst ec_; clear en_)); have GB44 := am_ gb44; have GG44 := am_ HG44; clear gb44 gl44 HG44; obtain ⟨ce44, hcl44, hM44, hcc44, hfr44⟩ := Kd.N_elem HO_8.out [] (x36_2 : Int) p44 q44; obtain ⟨ua44_0, uc44_0, rfl, ul44_0, ge44_0⟩ := Kd.FK_slice_open hM44; have hx44_0 := hcc44 0 _ rfl; have hf44_0 := hfr44 0; (try simp only [show ((Kd.slice 3 (Kd.int .i64))).sz = 1 from rfl, Nat.mul_one, Nat.add_zero] at hx44_0); (try simp only [show ((Kd.slice 3 (Kd.int .i64))).sz = 1 from rfl, Nat.mul_one, Nat.add_zero] at hf44_0); clear hcl44 hcc44 hfr44 hM44; replace p44 := eq_true p44; replace q44 := eq_true q44; have HX50 := am_ (show Kd.N (Kd.slice 3 (Kd.int .i64)) 22 w45 w.heap.size (fun k_ => (P1_0_ k_ ∨ w.heap.size ≤ k_) ∧ k_ ≠ gb01 ∧ k_ ≠ gb00 ∧ k_ ≠ gb02) (.slice (some ⟨go44, 0, none⟩) x8_2.length co44) x8_2 from (nu HO_8.out)); obtain ⟨ce50, hcl50, hM50, hcc50, hfr50⟩ := Kd.N_elem HX50.out [] (x36_2 : Int) (of_decide_eq_true z61_2) (by have h_ : (x36_2 : Int) < ((x8_2.length : Int) : Int) := of_decide_eq_true z61_2; first | exact h_ | (have e_ := (Kd.N_reads' HO_8.out).1; omega) | simpa using h_); obtain ⟨ua50_0, uc50_0, rfl, ul50_0, ge50_0⟩ := Kd.FK_slice_open hM50; have HP50 := Kd.N_seg HX50.out (x36_2 : Int) (of_decide_eq_true z61_2) (by have h_ : (x36_2 : Int) < ((x8_2.length : Int) : Int) := of_decide_eq_true z61_2; first | exact h_ | (have e_ := (Kd.N_reads' HO_8.out).1; omega) | simpa using h_) (seg := [.slice A49 y82.length c49]) (j := 0) hcl50 hcc50 (show 1 ≤ 1 from by decide) (x' := y82) (Kd.FK_slice_mk (Kd.V_reads' (Kd.V_mono (ok' := (fun k_ => ((fun k_ => (P1_0_ k_ ∨ w.heap.size ≤ k_) ∧ k_ ≠ gb01 ∧ k_ ≠ gb00 ∧ k_ ≠ gb02)) k_ ∧ k_ ≠ go44)) (HO91.out) (fun k_ hk => ⟨⟨hk.1, ⟨hk.2.2.1, ⟨hk.2.2.2.1, hk.2.2.2.2⟩⟩⟩, fun e_ => (hk.2.1) (by rw [e_]; rfl)⟩))).2.1 (Kd.V_F (Kd.V_mono (ok' := (fun k_ => ((fun k_ => (P1_0_ k_ ∨ w.heap.size ≤ k_) ∧ k_ ≠ gb01 ∧ k_ ≠ gb00 ∧ k_ ≠ gb02)) k_ ∧ k_ ≠ go44)) (HO91.out) (fun k_ hk => ⟨⟨hk.1, ⟨hk.2.2.1, ⟨hk.2.2.2.1, hk.2.2.2.2⟩⟩⟩, fun e_ => (hk.2.1) (by rw [e_]; rfl)⟩)))) (fun _ hk => hk); have hx50_0 := hcc50 0 _ rfl; (try simp only [show ((Kd.slice 3 (Kd.int .i64))).sz = 1 from rfl, Nat.mul_one, Nat.add_zero] at hx50_0); have hf50_0 := hfr50 0; (try simp only [show ((Kd.slice 3 (Kd.int .i64))).sz = 1 from rfl, Nat.mul_one, Nat.add_zero] at hf50_0); clear hcl50 hcc50 hfr50 hM50; (try simp only [show ((Kd.slice 3 (Kd.int .i64))).sz = 1 from rfl, Nat.mul_one, Nat.add_zero] at HP50); (try simp only [show ((Kd.slice 3 (Kd.int .i64))).sz = 1 from rfl, Nat.mul_one, Nat.add_zero] at HP50)) | ((with_reducible refine gate_store (t := 22) (p := 52) rfl ?_); refine store_event (t := 22) (p := 52) (v := ?vo_w51) (w1 := (w45.setCell ⟨go44, (x36_2 : Int).toNat, none⟩ (.slice A49 y82.length c49))) ?hg ?ho ?hn ?hr ?_; (case ho => rfl); (case hg => rfl); (case hn => rfl); (case hr => first | (go_simp; done) | (go_simp; rfl)); intro w51 hw; have hg : w45.grownBy w51 (some go44) := (by rw [hw]; exact HP50.2); have hp_ : Kd.N (Kd.slice 3 (Kd.int .i64)) 22 w51 w.heap.size (fun k_ => (P1_0_ k_ ∨ w.heap.size ≤ k_) ∧ k_ ≠ gb01 ∧ k_ ≠ gb00 ∧ k_ ≠ gb02) (.slice (some ⟨go44, 0, none⟩) x8_2.length co44) y89 := (by rw [hw, Ny89.out]; exact HP50.1); clear HP50; have n0_ := am_ (hp_); have n1_ := am_ (Kd.V_afterv (v := (.slice (some ⟨go44, 0, none⟩) x8_2.length co44)) (v1 := (.slice (some ⟨go44, 0, none⟩) x8_2.length co44)) (ok := (fun k_ => (P1_0_ k_ ∨ w.heap.size ≤ k_) ∧ k_ ≠ gb01 ∧ k_ ≠ gb00 ∧ k_ ≠ gb02)) (vu (Kd.V_mono HO_06.out (fun _ hk => ⟨⟨hk.1, ⟨hk.2.2.1, ⟨hk.2.2.2.1, hk.2.2.2.2⟩⟩⟩, hk.2.1⟩))) hg (.inl rfl)); have n2_ := am_ (blk_grown (bu BK01.out) hg (Kd.N_ne HO_8.out BK01.out (by decide))); have n3_ := am_ (blk_grown (bu BK00.out) hg (Kd.N_ne HO_8.out BK00.out (by decide))); have n4_ := am_ (blk_grown (bu BK02.out) hg (Kd.N_ne HO_8.out BK02.out (by decide))); have n5_ := am_ (Kd.V_afterv (v := (.slice (some ⟨go44, 0, none⟩) x8_2.length co44)) (v1 := (.slice (some ⟨go44, 0, none⟩) x8_2.length co44)) (ok := (fun k_ => (P1_0_ k_ ∨ w.heap.size ≤ k_) ∧ k_ ≠ gb01 ∧ k_ ≠ gb00 ∧ k_ ≠ gb02)) (vu (Kd.V_mono HO91.out (fun _ hk => ⟨⟨hk.1, ⟨hk.2.2.1, ⟨hk.2.2.2.1, hk.2.2.2.2⟩⟩⟩, hk.2.1⟩))) hg (.inl rfl)); have n6_ := am_ (by rw [hw]; exact below_set (HB.out) GB44.out : Below w.heap.size w w51); clear HO_8 HO_06 BK01 BK00 BK02 HO91 HB; have HO_8 := n0_; have HO_06 := n1_; have BK01 := n2_; have BK00 := n3_; have BK02 := n4_; have HO91 := n5_; have HB := n6_; clear n0_ n1_ n2_ n3_ n4_ n5_ n6_; clear hg hw hp_))
              go_roundg k2
              case measure => have := HJ3.out; have := HK2.out; omega
              case rel => exact ⟨(y89), (wrap64 (x9_2 + t08)), (wrap64 (x36_2 + 1)), z61_1, z61_1, H', ⟨by have := HJ3.out; have := HK2.out; omega⟩, ⟨nu HO_8.out⟩, ⟨vu (Kd.V_mono HO_06.out (fun _ hk => ⟨hk.1.1, ⟨hk.2, ⟨hk.1.2.1, ⟨hk.1.2.2.1, hk.1.2.2.2⟩⟩⟩⟩))⟩, ⟨bu BK01.out⟩, ⟨bu BK00.out⟩, ⟨bu BK02.out⟩, ⟨z61_8⟩⟩
             rw [if_neg c43] at H
             exact absurd H (by simp)
            rw [if_neg c42] at H
            exact absurd H (by simp)
           rw [if_neg c41] at H
           exact absurd H (by simp)
          rw [if_neg c40] at H
          exact absurd H (by simp)
         rw [if_neg c38] at H
         exact absurd H (by simp)
        rw [if_neg c37] at H
        exact absurd H (by simp)
       rw [if_neg c36] at H
       have c36b0 : decide (x36_2 < (l0_0.length : Int)) = false := decide_eq_false c36
       clear c36
       replace H := Option.bind_eq_some_iff.mp H
       obtain ⟨t09, A520, H⟩ := H
       replace H : (impl_TurnSeen.l1 k2 x8_2 l2 (l2.length : Int) 0 ([] : List Int) t09) = some (r1, r2, r3) := H
       have A52 := am_ A520
       clear A520
       have H' := am_ H
       clear H
       have hnb53 := NB00_01.out
       have hnc53 := NB01_00.out
       have hnb54 := NB00_02.out
       have hnc54 := NB02_00.out
       have hcz55_0 := cf0 BK00.out
       have hcz55_1 := cf1 BK00.out
       have hfz55_0 := blk_frozen BK00.out 0
       have hfz55_1 := blk_frozen BK00.out 1
       go_wp2_with (first | ((with_reducible refine gate_callee (f := 68) rfl ?_); refine goesL_ (some 59) rfl rfl Try.func68 (by kernel_rfl) rfl #[.slice A1_1 l1_1.length c1_1] rfl (by (try simp only [List.map_toArray, List.map_cons, List.map_nil]); first | done | rfl | (simp only [List.length_drop, List.length_take]; rfl)) ?_; (with_reducible refine (slices_Clone_int_int.calls _ _ l1_1 t09 _ ?side1 ?side2 A52.out).mono ?_); (case side1 => repeat (first | exact (Kd.C_below HR1_1.out HB.out) | (with_reducible refine Kd.C_alloc ?_ _) | (with_reducible refine Kd.C_drewN ?_ _) | (with_reducible refine Kd.C_drew ?_))); (case side2 => exact HC1_1.out); rintro e w56 ⟨v98, rfl, ho0, hb⟩; refine ⟨_, rfl, ?_⟩; replace HO_8 := am_ (Kd.N_elder' (nu HO_8.out) (Kd.R_base ho0) hb); replace HO_06 := am_ (Kd.V_elder' (vu HO_06.out) (Kd.R_base ho0) hb); have HO93 := am_ (Kd.R_lower (Kd.R_newM (M := fun k_ => (w.heap.size ≤ k_)) ho0 (below_size z61_8) (fun k_ h_ => h_)) (below_size z61_8)); replace BK01 := am_ (blk_below (bu BK01.out) hb); replace BK00 := am_ (blk_below (bu BK00.out) hb); replace BK02 := am_ (blk_below (bu BK02.out) hb); replace HB := am_ (below_step z61_8 hb); (try clear hb); (try clear hb2); (try clear hk); (try clear hi); (try clear ho0); obtain ⟨Ao57, co57, eo57⟩ := Kd.R_slice HO93.out; subst eo57) | ((with_reducible refine gate_dst (N := 13) rfl ?_); (try (refine gate_guard (by rfl) ?_; dsimp only)); refine box_event ?hg (N := 13) ?hd (cs := #[.slice none 0 0, .slice none 0 0]) (t := 24) ?hr ?_; (case hd => rfl); (case hg => rfl); (case hr => first | (go_simp; done) | (go_simp; rfl)); intro gb03 hg w58 hbox hb; have n0_ := am_ (Kd.N_below (Kd.N_elderB (nu HO_8.out) gb03 (Nat.le_of_eq hg.symm)) hb); have n1_ := am_ (Kd.V_below (Kd.V_elderB (vu HO_06.out) gb03 (Nat.le_of_eq hg.symm)) hb); have n2_ := am_ (Kd.R_below (ru HO93.out) hb); have n3_ := am_ (blk_below (bu BK01.out) hb); have n4_ := am_ (blk_below (bu BK00.out) hb); have n5_ := am_ (blk_below (bu BK02.out) hb); have n6_ := am_ (below_step z61_8 hb); have n7_ := am_ (hbox); have n8_ := am_ (by rw [hg]; exact (below_size z61_8) : w.heap.size ≤ gb03); have n9_ := am_ (by rw [hg]; exact (below_size z61_8) : w.heap.size ≤ gb03); have n10_ := am_ (by rw [hg]; exact Nat.ne_of_lt (blk_lt (bu BK01.out)) : gb01 ≠ gb03); have n11_ := am_ (by rw [hg]; exact Nat.ne_of_gt (blk_lt (bu BK01.out)) : gb03 ≠ gb01); have n12_ := am_ (by rw [hg]; exact Nat.ne_of_lt (blk_lt (bu BK00.out)) : gb00 ≠ gb03); have n13_ := am_ (by rw [hg]; exact Nat.ne_of_gt (blk_lt (bu BK00.out)) : gb03 ≠ gb00); have n14_ := am_ (by rw [hg]; exact Nat.ne_of_lt (blk_lt (bu BK02.out)) : gb02 ≠ gb03); have n15_ := am_ (by rw [hg]; exact Nat.ne_of_gt (blk_lt (bu BK02.out)) : gb03 ≠ gb02); clear HO_8 HO_06 HO93 BK01 BK00 BK02 HB; have HO_8 := n0_; have HO_06 := n1_; have HO93 := n2_; have BK01 := n3_; have BK00 := n4_; have BK02 := n5_; have HB := n6_; have BK03 := n7_; have GW03 := n8_; have GE03 := n9_; have NB01_03 := n10_; have NB03_01 := n11_; have NB00_03 := n12_; have NB03_00 := n13_; have NB02_03 := n14_; have NB03_02 := n15_; clear n0_ n1_ n2_ n3_ n4_ n5_ n6_ n7_ n8_ n9_ n10_ n11_ n12_ n13_ n14_ n15_; clear hb hbox hg; have hnb59 := NB03_01.out; have hnc59 := NB01_03.out; have hnb60 := NB03_00.out; have hnc60 := NB00_03.out; have hnb61 := NB03_02.out; have hnc61 := NB02_03.out; have hcz62_0 := cf0 BK03.out; have hcz62_1 := cf1 BK03.out; have hfz62_0 := blk_frozen BK03.out 0; have hfz62_1 := blk_frozen BK03.out 1))
       go_loopg [63] k2 (fun kq v63 w' => ∃ (x63_3 : Int) (x05_3 : List Int) (u05 : Value), v63 = .int .i64 x63_3 ∧ Aside0 (impl_TurnSeen.l1 kq x8_2 l2 (l2.length : Int) x63_3 x05_3 t09 = some (r1, r2, r3)) ∧ Aside0 (kq ≤ k2) ∧ Aside0 (Kd.N (Kd.slice 3 (Kd.int .i64)) 22 w' w.heap.size (fun k_ => (P1_0_ k_ ∨ w.heap.size ≤ k_) ∧ some k_ ≠ (u05 : Value).ownBlock ∧ some k_ ≠ ((.slice Ao57 t09.length co57) : Value).ownBlock ∧ k_ ≠ gb01 ∧ k_ ≠ gb00 ∧ k_ ≠ gb02 ∧ k_ ≠ gb03) v95 x8_2) ∧ Aside0 (Kd.V (Kd.int .i64) 3 w' w.heap.size (fun k_ => (P1_0_ k_ ∨ w.heap.size ≤ k_) ∧ some k_ ≠ (v95 : Value).ownBlock ∧ some k_ ≠ (u05 : Value).ownBlock ∧ some k_ ≠ ((.slice Ao57 t09.length co57) : Value).ownBlock ∧ k_ ≠ gb01 ∧ k_ ≠ gb00 ∧ k_ ≠ gb02 ∧ k_ ≠ gb03) (.slice A1_0 l1_0.length c1_0) l1_0) ∧ Aside0 (Kd.R (Kd.int .i64) 3 w' w.heap.size (fun k_ => (w.heap.size ≤ k_) ∧ some k_ ≠ ((.slice Ao57 t09.length co57) : Value).ownBlock) u05 x05_3) ∧ Aside0 (Kd.R (Kd.int .i64) 3 w' w.heap.size (fun k_ => (w.heap.size ≤ k_) ∧ some k_ ≠ (u05 : Value).ownBlock) (.slice Ao57 t09.length co57) t09) ∧ Aside0 (w'.heap[gb01]? = some (.cells #[(.slice A0_0 l0_0.length c0_0)] 35 (0, 0))) ∧ Aside0 (w'.heap[gb00]? = some (.cells #[(.slice A1_0 l1_0.length c1_0), (.slice A1_1 l1_1.length c1_1)] 24 (0, 0))) ∧ Aside0 (w'.heap[gb02]? = some (.cells #[(.slice none 0 0), (.slice none 0 0)] 24 (0, 0))) ∧ Aside0 (w'.heap[gb03]? = some (.cells #[u05, (.slice Ao57 t09.length co57)] 24 (0, 0))) ∧ Aside0 (Below w.heap.size w w'))
       case atStart => exact ⟨(0), (([] : List Int)), (.slice none 0 0), z61_1, H', ⟨Nat.le_refl _⟩, ⟨nu (Kd.N_mono (Kd.N_far (p := ⟨gb03, 1, none⟩) (Kd.N_far (p := ⟨gb03, 0, none⟩) (Kd.N_mono HO_8.out (fun k_ hk => (⟨hk, hk.2⟩ : _ ∧ k_ ≠ gb03))) (fun _ hk => hk.2) (.slice none 0 0)) (fun _ hk => hk.2) (.slice Ao57 t09.length co57)) (fun _ hk => ⟨hk.1.1.1.1, ⟨(by simp [Value.ownBlock]), ⟨hk.1.1.2, ⟨hk.1.1.1.2.1, ⟨hk.1.1.1.2.2.1, ⟨hk.1.1.1.2.2.2, hk.1.2⟩⟩⟩⟩⟩⟩))⟩, ⟨vu (Kd.V_mono (Kd.V_far (p := ⟨gb03, 1, none⟩) (Kd.V_far (p := ⟨gb03, 0, none⟩) (Kd.V_mono HO_06.out (fun k_ hk => (⟨hk, hk.2⟩ : _ ∧ k_ ≠ gb03))) (fun _ hk => hk.2) (.slice none 0 0)) (fun _ hk => hk.2) (.slice Ao57 t09.length co57)) (fun _ hk => ⟨hk.1.1.1.1, ⟨hk.1.1.1.2.1, ⟨(by simp [Value.ownBlock]), ⟨hk.1.1.2, ⟨hk.1.1.1.2.2.1, ⟨hk.1.1.1.2.2.2.1, ⟨hk.1.1.1.2.2.2.2, hk.1.2⟩⟩⟩⟩⟩⟩⟩))⟩, ⟨z61_5⟩, ⟨ru (Kd.R_mono (Kd.R_far (p := ⟨gb03, 1, none⟩) (Kd.R_far (p := ⟨gb03, 0, none⟩) (Kd.R_types HO93.out BK03.out (by decide)) (fun _ hk => hk.2) (.slice none 0 0)) (fun _ hk => hk.2) (.slice Ao57 t09.length co57)) (fun _ hk => ⟨hk.1.1, (by simp [Value.ownBlock])⟩))⟩, ⟨by (with_reducible repeat (first | refine blk_drewN ?_ _ | refine blk_drew ?_ | refine blk_alloc ?_ _)); refine blk_far ?_ NB01_03.out _; (with_reducible repeat (first | refine blk_drewN ?_ _ | refine blk_drew ?_ | refine blk_alloc ?_ _)); refine blk_far ?_ NB01_03.out _; (with_reducible repeat (first | refine blk_drewN ?_ _ | refine blk_drew ?_ | refine blk_alloc ?_ _)); exact BK01.out⟩, ⟨by (with_reducible repeat (first | refine blk_drewN ?_ _ | refine blk_drew ?_ | refine blk_alloc ?_ _)); refine blk_far ?_ NB00_03.out _; (with_reducible repeat (first | refine blk_drewN ?_ _ | refine blk_drew ?_ | refine blk_alloc ?_ _)); refine blk_far ?_ NB00_03.out _; (with_reducible repeat (first | refine blk_drewN ?_ _ | refine blk_drew ?_ | refine blk_alloc ?_ _)); exact BK00.out⟩, ⟨by (with_reducible repeat (first | refine blk_drewN ?_ _ | refine blk_drew ?_ | refine blk_alloc ?_ _)); refine blk_far ?_ NB02_03.out _; (with_reducible repeat (first | refine blk_drewN ?_ _ | refine blk_drew ?_ | refine blk_alloc ?_ _)); refine blk_far ?_ NB02_03.out _; (with_reducible repeat (first | refine blk_drewN ?_ _ | refine blk_drew ?_ | refine blk_alloc ?_ _)); exact BK02.out⟩, ⟨by (with_reducible repeat (first | refine blk_drewN ?_ _ | refine blk_drew ?_ | refine blk_alloc ?_ _)); refine blk_put (cs := #[.slice none 0 0, .slice none 0 0]) ?_ 1 _ rfl; (with_reducible repeat (first | refine blk_drewN ?_ _ | refine blk_drew ?_ | refine blk_alloc ?_ _)); refine blk_put (cs := #[.slice none 0 0, .slice none 0 0]) ?_ 0 _ rfl; (with_reducible repeat (first | refine blk_drewN ?_ _ | refine blk_drew ?_ | refine blk_alloc ?_ _)); exact BK03.out⟩, ⟨z61_9⟩⟩
       case round =>
        clear H'
        obtain ⟨x63_3, x05_3, u05, rfl, HA, HK3, HO_8, HO_06, HO_05, HO_86, BK01, BK00, BK02, BK03, HB⟩ := hrel
        cases gk with
        | zero => exact absurd HA.out (by simp [impl_TurnSeen.l1])
        | succ k3 =>
         have H := HA.out
         clear HA
         simp only [impl_TurnSeen.l1] at H
         by_cases c63 : x63_3 < (l2.length : Int)
         ·rw [if_pos c63] at H
          have c63b0 : decide (x63_3 < (l2.length : Int)) = true := decide_eq_true c63
          clear c63
          by_cases c64 : 0 ≤ x63_3
          ·rw [if_pos c64] at H
           have c64b0 : decide (0 ≤ x63_3) = true := decide_eq_true c64
           clear c64
           by_cases c65 : x63_3 < (l2.length : Int)
           ·rw [if_pos c65] at H
            have c65b0 : decide (x63_3 < (l2.length : Int)) = true := decide_eq_true c65
            clear c65
            by_cases c66 : 0 ≤ (rd l2 x63_3)
            ·rw [if_pos c66] at H
             have c66b0 : decide (0 ≤ (rd l2 x63_3)) = true := decide_eq_true c66
             clear c66
             by_cases c67 : (rd l2 x63_3) < (x8_2.length : Int)
             ·rw [if_pos c67] at H
              have c67b0 : decide ((rd l2 x63_3) < (x8_2.length : Int)) = true := decide_eq_true c67
              clear c67
              by_cases c68 : x05_3.length + (rd_L4 x8_2 (rd l2 x63_3)).length < 17592186044416
              ·rw [if_pos c68] at H
               have LMc68 := am_ c68
               clear c68
               obtain ⟨y83, hy83⟩ : ∃ y_ : List Int, y_ = (x05_3 ++ (rd_L4 x8_2 (rd l2 x63_3))) := ⟨_, rfl⟩
               replace H : (impl_TurnSeen.l1 k3 x8_2 l2 (l2.length : Int) (wrap64 (x63_3 + 1)) y83 t09) = some (r1, r2, r3) := by first | (rw [hy83]; with_reducible exact H) | (have H2_ := (Option.bind_some _ _).symm.trans H; rw [hy83]; with_reducible exact H2_) | (have H2_ := (Option.bind_some _ _).symm.trans H; with_reducible exact H2_) | with_reducible exact H | (rw [hy83]; exact H) | exact H
               have Ny83 := am_ hy83
               clear hy83
               have H' := am_ H
               clear H
               have p84 : 0 ≤ (x63_3 : Int) := of_decide_eq_true z61_2
               have q84 : x63_3 < (l2.length : Int) := of_decide_eq_true z61_2
               obtain ⟨ad84, e84, hx84_0⟩ := Kd.at_int HR2.out x63_3 p84 q84
               cases e84
               replace hx84_0 := (HB.out.cell (World.block_lt_of_cell? w _ hx84_0)).trans hx84_0
               replace p84 := eq_true p84
               replace q84 := eq_true q84
               try go_wp2
               replace HO_8 := am_ (Kd.N_drew HO_8.out)
               replace HO_06 := am_ (Kd.V_drew HO_06.out)
               replace HO_05 := am_ (Kd.R_drew HO_05.out)
               replace HO_86 := am_ (Kd.R_drew HO_86.out)
               replace BK01 := am_ (blk_drew BK01.out)
               replace BK00 := am_ (blk_drew BK00.out)
               replace BK02 := am_ (blk_drew BK02.out)
               replace BK03 := am_ (blk_drew BK03.out)
               replace HB := am_ (below_drew1 HB.out)
               obtain ⟨Ao70, co70, eo70⟩ := Kd.N_slice HO_8.out
               (first | subst eo70 | (injection eo70 with f1_ f2_ f3_; have f4_ := f1_.symm; have f5_ := f3_.symm; clear f1_ f2_ f3_; subst f4_; subst f5_))
               have p04 : 0 ≤ ((rd l2 x63_3) : Int) := of_decide_eq_true z61_2
               have q04 : (rd l2 x63_3) < (x8_2.length : Int) := of_decide_eq_true z61_2
               obtain ⟨ad04, A04_0, c04_0, e04, hx04_0, hl04_0, hi04_0⟩ := at_L4 (Kd.N_reads' HO_8.out).2.2 (rd l2 x63_3) p04 q04
               cases e04
               obtain ⟨ce04, hce04, hMe04, hcc04⟩ := Kd.N_get HO_8.out [] (rd l2 x63_3) p04 (by first | exact q04 | exact of_decide_eq_true z61_2 | (have e_ := (Kd.N_reads' HO_8.out).1; omega))
               obtain ⟨ua04_0, uc04_0, rfl, ul04_0, ge04_0⟩ := Kd.FK_slice_open hMe04
               have hv04_0 := hcc04 0 _ rfl
               rw [Nat.add_zero, show ((Kd.slice 3 (Kd.int .i64))).sz = 1 from rfl, Nat.mul_one] at hv04_0
               replace hv04_0 := Option.some.inj (hv04_0.symm.trans hx04_0)
               injection hv04_0 with hva_ hvn_ hvc_
               rw [hva_] at ge04_0
               rw [hvc_] at ul04_0
               have HL04_0 := am_ (show Kd.V (Kd.int .i64) 3 _ w.heap.size _ _ (rd_L4 x8_2 (rd l2 x63_3)) from Kd.V_mk ul04_0 ge04_0)
               clear hva_ hvn_ hvc_ ge04_0 ul04_0 hcc04 hce04
               have HR04_0 := am_ hi04_0
               have HC04_0 := am_ hl04_0
               clear hi04_0 hl04_0
               replace p04 := eq_true p04
               replace q04 := eq_true q04
               refine start_ (n := 9) (S := fun w' => w'.cell? ⟨gb03, 0, none⟩ = some (u05) ∧ w'.cell? ⟨gb03, 1, none⟩ = some (.slice Ao57 t09.length co57) ∧ w'.cell? (ad04.add ((rd l2 x63_3)).toNat) = some (.slice A04_0 (rd_L4 x8_2 (rd l2 x63_3)).length c04_0)) (ds := [6, 8]) #[false, false, false, false, false, false, false, false, false] (by kernel_rfl) rfl rfl ⟨(blk_cell BK03.out 0).trans rfl, (blk_cell BK03.out 1).trans rfl, hx04_0⟩ (fun hHeld => ?_); refine with_tabW impl_TurnSeen.tab16 impl_TurnSeen.bits16 (fun HT_ HW_ => ?_)
               generalize wr.drew = w69 at HO_8 HO_06 HO_05 HO_86 BK01 BK00 BK02 BK03 HB HL04_0 HR04_0 hx04_0 hHeld ⊢
               refine pure_ (i := 0) (N := some 67) (v := ?_) (a' := ?_) #[true, false, false, false, false, false, false, false, false] rfl rfl (any_of HT_.out (by kernel_rfl)) (fun _ _ _ h => h) (Or.inl ⟨by rfl, ?_⟩) ?_ ?_
               rotate_left
               ·intro w'
                go_simp
                with_reducible rfl
               rotate_left
               ·simp only [Act.put, List.setIfInBounds_toArray, List.set_cons_zero, List.set_cons_succ, i64_w, i32_w]
                rfl
               refine pure_ (i := 2) (N := some 69) (v := ?_) (a' := ?_) #[true, false, true, false, false, false, false, false, false] rfl rfl (any_of HT_.out (by kernel_rfl)) (fun _ _ _ h => h) (Or.inl ⟨by rfl, ?_⟩) ?_ ?_
               rotate_left
               ·intro w'
                go_simp
                with_reducible rfl
               rotate_left
               ·simp only [Act.put, List.setIfInBounds_toArray, List.set_cons_zero, List.set_cons_succ, i64_w, i32_w]
                rfl
               refine pure_ (i := 3) (N := some 70) (v := ?_) (a' := ?_) #[true, false, true, true, false, false, false, false, false] rfl rfl (any_of HT_.out (by kernel_rfl)) (fun _ _ _ h => h) (Or.inl ⟨by rfl, ?_⟩) ?_ ?_
               rotate_left
               ·intro w'
                go_simp
                with_reducible rfl
               rotate_left
               ·simp only [Act.put, List.setIfInBounds_toArray, List.set_cons_zero, List.set_cons_succ, i64_w, i32_w]
                rfl
               refine pure_ (i := 4) (N := some 71) (v := ?_) (a' := ?_) #[true, false, true, true, true, false, false, false, false] rfl rfl (any_of HT_.out (by kernel_rfl)) (fun _ _ _ h => h) (Or.inl ⟨by rfl, ?_⟩) ?_ ?_
               rotate_left
               ·intro w'
                go_simp
                with_reducible rfl
               rotate_left
               ·simp only [Act.put, List.setIfInBounds_toArray, List.set_cons_zero, List.set_cons_succ, i64_w, i32_w]
                rfl
               refine take_ (i := 1) (N := some 68) (v := ?_) (a' := ?_) #[true, true, true, true, true, false, false, false, false] rfl rfl (take_ofW HT_.out HW_.out (by kernel_rfl)) (fun _ _ _ h => h) (Or.inl ⟨by rfl, ?_⟩) hHeld ?_ ?_
               rotate_left
               ·rintro w' ⟨s0, s1, s2⟩
                go_simp
                with_reducible rfl
               rotate_left
               ·simp only [Act.put, List.setIfInBounds_toArray, List.set_cons_zero, List.set_cons_succ, i64_w, i32_w]
                rfl
               refine take_ (i := 5) (N := some 72) (v := ?_) (a' := ?_) #[true, true, true, true, true, true, false, false, false] rfl rfl (take_ofW HT_.out HW_.out (by kernel_rfl)) (fun _ _ _ h => h) (Or.inl ⟨by rfl, ?_⟩) hHeld ?_ ?_
               rotate_left
               ·rintro w' ⟨s0, s1, s2⟩
                go_simp
                with_reducible rfl
               rotate_left
               ·simp only [Act.put, List.setIfInBounds_toArray, List.set_cons_zero, List.set_cons_succ, i64_w, i32_w]
                rfl
               refine last_ (i := 6) (N := some 73) #[true, true, true, true, true, true, true, false, false] rfl rfl (one_of HT_.out (by kernel_rfl)) (by decide) (fun K hK => ?_)
               refine Kd.R_append_rows_step (Kd.int .i64) (w0 := w) w.heap.size (by rfl) (.tmp 68) (.tmp 72) 22 3 (.int .i64 0) 8 rfl Try.underlying22 info3 rfl (by decide) (by omega) u05 x05_3 (rd_L4 x8_2 (rd l2 x63_3)) _ _ _ (fun k_ => (w.heap.size ≤ k_) ∧ some k_ ≠ (.slice Ao57 t09.length co57 : Value).ownBlock) (fun _ => False) rfl rfl ?aO ?aR (fun _ _ h => h) (fun _ h => h.elim) ?aF ?aB ?aS ?aL ?_
               (case aR => repeat (first | exact (by repeat (first | (with_reducible exact HR04_0.out) | (with_reducible refine Kd.C_alloc ?_ _) | (with_reducible refine Kd.C_drewN ?_ _) | (with_reducible refine Kd.C_drew ?_) | exact HR04_0.out)) | (with_reducible refine Kd.C_alloc ?_ _) | (with_reducible refine Kd.C_drewN ?_ _) | (with_reducible refine Kd.C_drew ?_)))
               (case aB => exact z61_9)
               (case aF => exact (fun k_ hk => ⟨(Nat.le_trans (below_size z61_9) hk), Kd.fresh' (Kd.R_lt (ru HO_86.out)) k_ hk⟩))
               (case aO => exact (ru HO_05.out))
               (case aS => exact (below_size z61_9))
               (case aL => have := LMc68.out; omega)
               intro v99 w71 ho hb hg hat
               rw [← Ny83.out] at ho
               replace HO_8 := am_ (Kd.N_afterv (ok := (fun k_ => (P1_0_ k_ ∨ w.heap.size ≤ k_) ∧ some k_ ≠ (.slice Ao57 t09.length co57 : Value).ownBlock ∧ k_ ≠ gb01 ∧ k_ ≠ gb00 ∧ k_ ≠ gb02 ∧ k_ ≠ gb03)) (nu (Kd.N_mono HO_8.out (fun _ hk => ⟨⟨hk.1, ⟨hk.2.2.1, ⟨hk.2.2.2.1, ⟨hk.2.2.2.2.1, ⟨hk.2.2.2.2.2.1, hk.2.2.2.2.2.2⟩⟩⟩⟩⟩, hk.2.1⟩))) hg hat)
               replace HO_06 := am_ (Kd.V_afterv (ok := (fun k_ => (P1_0_ k_ ∨ w.heap.size ≤ k_) ∧ some k_ ≠ (.slice (some ad04) x8_2.length co70 : Value).ownBlock ∧ some k_ ≠ (.slice Ao57 t09.length co57 : Value).ownBlock ∧ k_ ≠ gb01 ∧ k_ ≠ gb00 ∧ k_ ≠ gb02 ∧ k_ ≠ gb03)) (vu (Kd.V_mono HO_06.out (fun _ hk => ⟨⟨hk.1, ⟨hk.2.1, ⟨hk.2.2.2.1, ⟨hk.2.2.2.2.1, ⟨hk.2.2.2.2.2.1, ⟨hk.2.2.2.2.2.2.1, hk.2.2.2.2.2.2.2⟩⟩⟩⟩⟩⟩, hk.2.2.1⟩))) hg hat)
               replace HO_86 := am_ (Kd.R_after (ok := (fun k_ => (w.heap.size ≤ k_))) (ru HO_86.out) hg hat)
               replace BK01 := am_ (blk_grown (bu BK01.out) hg (Kd.R_ne HO_05.out BK01.out (by decide)))
               replace BK00 := am_ (blk_grown (bu BK00.out) hg (Kd.R_ne HO_05.out BK00.out (by decide)))
               replace BK02 := am_ (blk_grown (bu BK02.out) hg (Kd.R_ne HO_05.out BK02.out (by decide)))
               replace BK03 := am_ (blk_grown (bu BK03.out) hg (Kd.R_ne HO_05.out BK03.out (by decide)))
               replace HL04_0 := am_ (Kd.V_afterv (ok := (fun k_ => (P1_0_ k_ ∨ w.heap.size ≤ k_) ∧ some k_ ≠ (.slice (some ad04) x8_2.length co70 : Value).ownBlock ∧ some k_ ≠ (.slice Ao57 t09.length co57 : Value).ownBlock ∧ k_ ≠ gb01 ∧ k_ ≠ gb00 ∧ k_ ≠ gb02 ∧ k_ ≠ gb03)) (vu (Kd.V_mono HL04_0.out (fun _ hk => ⟨⟨hk.1.1, ⟨hk.2, ⟨hk.1.2.2.1, ⟨hk.1.2.2.2.1, ⟨hk.1.2.2.2.2.1, ⟨hk.1.2.2.2.2.2.1, hk.1.2.2.2.2.2.2⟩⟩⟩⟩⟩⟩, hk.1.2.1⟩))) hg hat)
               replace HB := am_ (hb)
               have HO96 := am_ (ho)
               clear HO_05 ho hb hg hat
               obtain ⟨Ao72, co72, eo72⟩ := Kd.R_slice HO96.out
               (first | subst eo72 | (injection eo72 with f1_ f2_ f3_; have f4_ := f1_.symm; have f5_ := f3_.symm; clear f1_ f2_ f3_; subst f4_; subst f5_))
               refine hK.out _ _ ?_
               clear hK K
               refine norm_ (a' := ?_) ?_ ?_
               rotate_left
               ·show Act.put _ (some 73) _ = _
                simp only [Act.put, List.setIfInBounds_toArray, List.set_cons_zero, List.set_cons_succ, i64_w, i32_w]
                rfl
               refine pure_ (i := 7) (N := some 74) (v := ?_) (a' := ?_) #[true, true, true, true, true, true, true, true, false] rfl rfl (any_of HT_.out (by kernel_rfl)) (fun _ _ _ h => h) (Or.inl ⟨by rfl, ?_⟩) ?_ ?_
               rotate_left
               ·intro w'
                go_simp
                with_reducible rfl
               rotate_left
               ·simp only [Act.put, List.setIfInBounds_toArray, List.set_cons_zero, List.set_cons_succ, i64_w, i32_w]
                rfl
               refine last_ (i := 8) (N := none) #[true, true, true, true, true, true, true, true, true] rfl rfl (one_of HT_.out (by kernel_rfl)) (by decide) (fun K hK => ?_)
               have hs73 : w71.cell? ⟨gb03, 0, none⟩ = some (u05) := (blk_cell BK03.out 0).trans rfl
               have hfs73 := blk_frozen BK03.out 0
               have hns73_0 := NB01_03.out
               have hns73_1 := NB00_03.out
               have hns73_2 := NB02_03.out
               have hms73_0 := NB03_01.out
               have hms73_1 := NB03_00.out
               have hms73_2 := NB03_02.out
               refine skip_ (w1 := ?_) (by rfl) rfl ?_ ?_
               rotate_left
               ·go_simp
                rfl
               refine hK.out _ _ ?_
               clear hK K
               refine done_ (done_of HT_.out (by kernel_rfl)) ?_
               try go_wp2
               go_roundg k3
               case measure => have := HJ3.out; have := HK2.out; have := HK3.out; omega
               case rel => exact ⟨(wrap64 (x63_3 + 1)), (y83), (.slice Ao72 y83.length co72), z61_1, H', ⟨by have := HJ3.out; have := HK2.out; have := HK3.out; omega⟩, ⟨nu (Kd.N_mono (Kd.N_far (p := ⟨gb03, 0, none⟩) (Kd.N_mono HO_8.out (fun k_ hk => (⟨hk, hk.1.2.2.2.2.2⟩ : _ ∧ k_ ≠ gb03))) (fun _ hk => hk.2) (.slice Ao72 y83.length co72)) (fun _ hk => ⟨hk.1.1.1, ⟨hk.1.2, ⟨hk.1.1.2.1, ⟨hk.1.1.2.2.1, ⟨hk.1.1.2.2.2.1, ⟨hk.1.1.2.2.2.2.1, hk.1.1.2.2.2.2.2⟩⟩⟩⟩⟩⟩))⟩, ⟨vu (Kd.V_mono (Kd.V_far (p := ⟨gb03, 0, none⟩) (Kd.V_mono HO_06.out (fun k_ hk => (⟨hk, hk.1.2.2.2.2.2.2⟩ : _ ∧ k_ ≠ gb03))) (fun _ hk => hk.2) (.slice Ao72 y83.length co72)) (fun _ hk => ⟨hk.1.1.1, ⟨hk.1.1.2.1, ⟨hk.1.2, ⟨hk.1.1.2.2.1, ⟨hk.1.1.2.2.2.1, ⟨hk.1.1.2.2.2.2.1, ⟨hk.1.1.2.2.2.2.2.1, hk.1.1.2.2.2.2.2.2⟩⟩⟩⟩⟩⟩⟩))⟩, ⟨ru (Kd.R_mono (Kd.R_far (p := ⟨gb03, 0, none⟩) (Kd.R_types HO96.out BK03.out (by decide)) (fun _ hk => hk.2) (.slice Ao72 y83.length co72)) (fun _ hk => ⟨hk.1.1, hk.1.2⟩))⟩, ⟨ru (Kd.R_mono (Kd.R_far (p := ⟨gb03, 0, none⟩) (Kd.R_types HO_86.out BK03.out (by decide)) (fun _ hk => hk.2) (.slice Ao72 y83.length co72)) (fun _ hk => ⟨hk.1.1, hk.1.2⟩))⟩, ⟨by (with_reducible repeat (first | refine blk_drewN ?_ _ | refine blk_drew ?_ | refine blk_alloc ?_ _)); refine blk_far ?_ NB01_03.out _; (with_reducible repeat (first | refine blk_drewN ?_ _ | refine blk_drew ?_ | refine blk_alloc ?_ _)); exact BK01.out⟩, ⟨by (with_reducible repeat (first | refine blk_drewN ?_ _ | refine blk_drew ?_ | refine blk_alloc ?_ _)); refine blk_far ?_ NB00_03.out _; (with_reducible repeat (first | refine blk_drewN ?_ _ | refine blk_drew ?_ | refine blk_alloc ?_ _)); exact BK00.out⟩, ⟨by (with_reducible repeat (first | refine blk_drewN ?_ _ | refine blk_drew ?_ | refine blk_alloc ?_ _)); refine blk_far ?_ NB02_03.out _; (with_reducible repeat (first | refine blk_drewN ?_ _ | refine blk_drew ?_ | refine blk_alloc ?_ _)); exact BK02.out⟩, ⟨by (with_reducible repeat (first | refine blk_drewN ?_ _ | refine blk_drew ?_ | refine blk_alloc ?_ _)); refine blk_put (cs := #[u05, .slice Ao57 t09.length co57]) ?_ 0 _ rfl; (with_reducible repeat (first | refine blk_drewN ?_ _ | refine blk_drew ?_ | refine blk_alloc ?_ _)); exact BK03.out⟩, ⟨z61_9⟩⟩
              rw [if_neg c68] at H
              exact absurd H (by simp)
             rw [if_neg c67] at H
             exact absurd H (by simp)
            rw [if_neg c66] at H
            exact absurd H (by simp)
           rw [if_neg c65] at H
           exact absurd H (by simp)
          rw [if_neg c64] at H
          exact absurd H (by simp)
         rw [if_neg c63] at H
         have c63b0 : decide (x63_3 < (l2.length : Int)) = false := decide_eq_false c63
         clear c63
         simp only [Option.some.injEq, Prod.mk.injEq] at H
         obtain ⟨rfl, rfl, rfl⟩ := H
         have hnb74 := NB03_01.out
         have hnc74 := NB01_03.out
         have hnb75 := NB03_00.out
         have hnc75 := NB00_03.out
         have hnb76 := NB03_02.out
         have hnc76 := NB02_03.out
         have hcz77_0 := cf0 BK03.out
         have hcz77_1 := cf1 BK03.out
         have hfz77_0 := blk_frozen BK03.out 0
         have hfz77_1 := blk_frozen BK03.out 1
         obtain ⟨Ao78, co78, eo78⟩ := Kd.R_slice HO_05.out
         subst eo78
         have hnb79 := NB02_01.out
         have hnc79 := NB01_02.out
         have hnb80 := NB02_00.out
         have hnc80 := NB00_02.out
         have hcz81_0 := cf0 BK02.out
         have hcz81_1 := cf1 BK02.out
         have hfz81_0 := blk_frozen BK02.out 0
         have hfz81_1 := blk_frozen BK02.out 1
         go_wp2
         refine bodyPost_ret (results_ct rfl _ _ gb02 24 #[.slice Ao78 x05_3.length co78, .slice Ao57 t09.length co57] (0, 0) _ rfl (by (with_reducible repeat (first | refine blk_drewN ?_ _ | refine blk_drew ?_ | refine blk_alloc ?_ _)); refine blk_put (cs := #[.slice Ao78 x05_3.length co78, .slice none 0 0]) ?_ 1 _ rfl; (with_reducible repeat (first | refine blk_drewN ?_ _ | refine blk_drew ?_ | refine blk_alloc ?_ _)); refine blk_put (cs := #[.slice none 0 0, .slice none 0 0]) ?_ 0 _ rfl; (with_reducible repeat (first | refine blk_drewN ?_ _ | refine blk_drew ?_ | refine blk_alloc ?_ _)); exact BK02.out) Try.underlying24 rfl (by kernel_rfl)) rfl ?_
         exact ⟨_, _, z61_3, ru (Kd.R_mono (Kd.R_far (p := ⟨gb02, 1, none⟩) (Kd.R_far (p := ⟨gb02, 0, none⟩) (Kd.R_types HO_05.out BK02.out (by decide)) (fun _ hk => hk.2) (.slice Ao78 x05_3.length co78)) (fun _ hk => hk.2) (.slice Ao57 t09.length co57)) (fun _ hk => ⟨hk.1.1, hk.1.2⟩)), ru (Kd.R_mono (Kd.R_far (p := ⟨gb02, 1, none⟩) (Kd.R_far (p := ⟨gb02, 0, none⟩) (Kd.R_types HO_86.out BK02.out (by decide)) (fun _ hk => hk.2) (.slice Ao78 x05_3.length co78)) (fun _ hk => hk.2) (.slice Ao57 t09.length co57)) (fun _ hk => ⟨hk.1.1, hk.1.2⟩)), z61_9⟩
    rw [if_neg c29] at H
    exact absurd H (by simp)
   rw [if_neg c28] at H
   exact absurd H (by simp)

end Go.Proofs.Ytefkbmhkhpekjaa.PB

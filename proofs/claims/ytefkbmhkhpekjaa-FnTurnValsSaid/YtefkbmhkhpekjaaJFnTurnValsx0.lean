-- Joined by wip/mclaim.py out of YtefkbmhkhpekjaaPBx100, YtefkbmhkhpekjaaPBx51, YtefkbmhkhpekjaaPBx98, YtefkbmhkhpekjaaPBx90, YtefkbmhkhpekjaaPBx82, YtefkbmhkhpekjaaPBx133, YtefkbmhkhpekjaaPBx120, YtefkbmhkhpekjaaPBx97, YtefkbmhkhpekjaaPBx52, YtefkbmhkhpekjaaPBx53, YtefkbmhkhpekjaaPBx13
import Derived.Test.YtefkbmhkhpekjaaPBx0
import Derived.Test.YtefkbmhkhpekjaaJFnTurnValsx1
import Derived.Test.YtefkbmhkhpekjaaJFnTurnValsx2
import Derived.Test.YtefkbmhkhpekjaaPBx31
import Derived.Test.YtefkbmhkhpekjaaPBx30
namespace Go.Proofs.Ytefkbmhkhpekjaa.PB
open Go.RowKit Go.Proofs.YtefkbmhkhpekjaaW.PrintWords Go.Proofs.YtefkbmhkhpekjaaW.PrintLast Go.Proofs.YtefkbmhkhpekjaaW.PrintMore
attribute [local go_sem] max2_int min2_int max_two min_two max_three min_three max_four min_four   -- for this text's walks alone
open Go.Proofs.YtefkbmhkhpekjaaMine
set_option linter.unusedVariables false
set_option linter.unusedSimpArgs false

theorem z100_1 {p : Prop} (h : p := by first | rfl | (simp; done) | (simp [*]; done)) : p := h
theorem z100_2 {p : Prop} (h : p := by repeat (first | exact Drawn0.refl _ | apply Drawn0.step)) : p := h
/-! ### spec_l22Row: function 100 -/
def spec_l22Row.l0 : Nat → List Int → Int → Int → Option (Bool)
  | 0, _, _, _ => none
  | k + 1, x0, x1, x5 => if x5 < x1 then ((spec_l12Has.f k x0 x5).bind fun t1020 => (if t1020 = true then (spec_l22Row.l0 k x0 x1 (wrap64 (x5 + 1))) else (some false))) else (some true)
def spec_l22Row.f (k : Nat) (l0 : List Int) (a1 : Int) : Option (Bool) := if (l0.length : Int) = a1 then (spec_l22Row.l0 k l0 a1 0) else (some false)
theorem spec_l22Row.mono_l : ∀ k, (∀ y0 y1 y2, LeO (spec_l22Row.l0 k y0 y1 y2) (spec_l22Row.l0 (k + 1) y0 y1 y2))
  | 0 => fun _ _ _ r h => by simp [spec_l22Row.l0] at h
  | k + 1 => by
    have ih0 := spec_l22Row.mono_l k
    · intro y0 y1 y2
      unfold spec_l22Row.l0
      repeat' first
      | (with_reducible exact ih0 _ _ _)
      | (with_reducible exact spec_l12Has.mono _ _ _)
      | (with_reducible exact LeO.refl _)
      | (with_reducible exact LeO.none _)
      | (with_reducible refine LeO.ite ?_ ?_)
      | (with_reducible refine LeO.bind ?_ (fun _ => ?_))
      | exact ih0 _ _ _
      | exact spec_l12Has.mono _ _ _
      | exact LeO.none _
      | refine LeO.ite ?_ ?_
      | refine LeO.bind ?_ (fun _ => ?_)
theorem spec_l22Row.mono : ∀ a0 a1 k, LeO (spec_l22Row.f k a0 a1) (spec_l22Row.f (k + 1) a0 a1) := by
  intro a0 a1 k
  have ih0 := spec_l22Row.mono_l k
  unfold spec_l22Row.f
  repeat' first
      | (with_reducible exact ih0 _ _ _)
      | (with_reducible exact spec_l12Has.mono _ _ _)
      | (with_reducible exact LeO.refl _)
      | (with_reducible exact LeO.none _)
      | (with_reducible refine LeO.ite ?_ ?_)
      | (with_reducible refine LeO.bind ?_ (fun _ => ?_))
      | exact ih0 _ _ _
      | exact spec_l12Has.mono _ _ _
      | exact LeO.none _
      | refine LeO.ite ?_ ?_
      | refine LeO.bind ?_ (fun _ => ?_)
set_option maxHeartbeats 8000000 in
set_option maxRecDepth 100000 in
theorem spec_l22Row.calls (k : Nat) (A0 : Option Addr) (c0 : Nat) (l0 : List Int) (a1 : Int) (r : Bool) (w : World) (hr0 : Kd.C (Kd.int .i64) w A0 l0.length l0) (hc0 : l0.length ≤ c0) (h : spec_l22Row.f k l0 a1 = some r) :
  Calls Try.prog 100 #[.slice A0 l0.length c0, .int .i64 a1] w fun e w' => e = .returned (.bool r) ∧ Drawn0 w w' := by
 have HR0 := am_ hr0
 have HC0 := am_ hc0
 clear hr0 hc0
 have H : (if (l0.length : Int) = a1 then (spec_l22Row.l0 k l0 a1 0) else (some false)) = some r := h
 clear h
 by_cases c3 : (l0.length : Int) = a1
 ·rw [if_pos c3] at H
  have c3b0 : ((l0.length : Int) == a1) = true := beq_iff_eq.mpr c3
  have c3b1 : ((l0.length : Int) != a1) = false := bne_eq_false_iff_eq.mpr c3
  clear c3
  have H' := am_ H
  clear H
  go_enter Try.func100, Try.ntmps100
  go_wp2
  go_loopg [5] k (fun kq v5 w' => ∃ (x5_1 : Int), v5 = .int .i64 x5_1 ∧ Aside0 (spec_l22Row.l0 kq l0 a1 x5_1 = some r) ∧ Aside0 (kq ≤ k) ∧ Drawn0 w w')
  case atStart => exact ⟨(0), z100_1, H', ⟨Nat.le_refl _⟩, z100_2⟩
  case round =>
   clear H'
   obtain ⟨x5_1, rfl, HA, HK1, ⟨m1, rfl⟩⟩ := hrel
   cases gk with
   | zero => exact absurd HA.out (by simp [spec_l22Row.l0])
   | succ k1 =>
    have H := HA.out
    clear HA
    simp only [spec_l22Row.l0] at H
    by_cases c4 : x5_1 < a1
    ·rw [if_pos c4] at H
     have c4b0 : decide (x5_1 < a1) = true := decide_eq_true c4
     clear c4
     replace H := Option.bind_eq_some_iff.mp H
     obtain ⟨t1020, A50, H⟩ := H
     replace H : (if t1020 = true then (spec_l22Row.l0 k1 l0 a1 (wrap64 (x5_1 + 1))) else (some false)) = some r := H
     have A5 := am_ A50
     clear A50
     by_cases c6 : t1020 = true
     ·subst c6
      have H1 : (spec_l22Row.l0 k1 l0 a1 (wrap64 (x5_1 + 1))) = some r := by rw [if_pos rfl] at H; exact H
      clear H
      have H := H1
      clear H1
      have H' := am_ H
      clear H
      go_wp2_with (first | ((with_reducible refine gate_callee (f := 101) rfl ?_); refine goesL_ (some 17) rfl rfl Try.func101 (by kernel_rfl) rfl #[.slice A0 l0.length c0, .int .i64 x5_1] rfl (by (try simp only [List.map_toArray, List.map_cons, List.map_nil]); first | done | rfl | (simp only [List.length_drop, List.length_take]; rfl)) ?_; (with_reducible refine (spec_l12Has.calls k1 _ _ l0 x5_1 true _ ?side1 ?side2 A5.out).mono ?_); (case side1 => repeat (first | exact HR0.out | (with_reducible refine Kd.C_alloc ?_ _) | (with_reducible refine Kd.C_drewN ?_ _) | (with_reducible refine Kd.C_drew ?_))); (case side2 => exact HC0.out); rintro e w' ⟨rfl, ⟨nd, rfl⟩⟩; refine ⟨_, rfl, ?_⟩))
      go_roundg k1
      case measure => have := HK1.out; omega
      case rel => exact ⟨(wrap64 (x5_1 + 1)), z100_1, H', ⟨by have := HK1.out; omega⟩, z100_2⟩
     ·replace c6 := Bool.eq_false_iff.mpr c6
      subst c6
      have H1 : (some false) = some r := by rw [if_neg (show ¬ (false = true) by decide)] at H; exact H
      clear H
      have H := H1
      clear H1
      obtain rfl := Option.some.inj H
      go_wp2_with (first | ((with_reducible refine gate_callee (f := 101) rfl ?_); refine goesL_ (some 17) rfl rfl Try.func101 (by kernel_rfl) rfl #[.slice A0 l0.length c0, .int .i64 x5_1] rfl (by (try simp only [List.map_toArray, List.map_cons, List.map_nil]); first | done | rfl | (simp only [List.length_drop, List.length_take]; rfl)) ?_; (with_reducible refine (spec_l12Has.calls k1 _ _ l0 x5_1 false _ ?side1 ?side2 A5.out).mono ?_); (case side1 => repeat (first | exact HR0.out | (with_reducible refine Kd.C_alloc ?_ _) | (with_reducible refine Kd.C_drewN ?_ _) | (with_reducible refine Kd.C_drew ?_))); (case side2 => exact HC0.out); rintro e w' ⟨rfl, ⟨nd, rfl⟩⟩; refine ⟨_, rfl, ?_⟩))
      go_ret
      exact ⟨z100_1, z100_2⟩
    ·rw [if_neg c4] at H
     have c4b0 : decide (x5_1 < a1) = false := decide_eq_false c4
     clear c4
     obtain rfl := Option.some.inj H
     go_wp2
     go_ret
     exact ⟨z100_1, z100_2⟩
 ·rw [if_neg c3] at H
  have c3b0 : ((l0.length : Int) == a1) = false := beq_eq_false_iff_ne.mpr c3
  have c3b1 : ((l0.length : Int) != a1) = true := bne_iff_ne.mpr c3
  obtain rfl := Option.some.inj H
  go_enter Try.func100, Try.ntmps100
  go_wp2
  go_ret
  exact ⟨z100_1, z100_2⟩

end Go.Proofs.Ytefkbmhkhpekjaa.PB

namespace Go.Proofs.Ytefkbmhkhpekjaa.PB
open Go.RowKit Go.Proofs.YtefkbmhkhpekjaaW.PrintWords Go.Proofs.YtefkbmhkhpekjaaW.PrintLast Go.Proofs.YtefkbmhkhpekjaaW.PrintMore
attribute [local go_sem] max2_int min2_int max_two min_two max_three min_three max_four min_four   -- for this text's walks alone
open Go.Proofs.YtefkbmhkhpekjaaMine
set_option linter.unusedVariables false
set_option linter.unusedSimpArgs false

theorem z51_1 {p : Prop} (h : p := by first | rfl | (simp; done) | (simp [*]; done)) : p := h
theorem z51_2 {p : Prop} (h : p := by first | (with_reducible assumption) | assumption) : p := h
theorem z51_3 {p : Prop} (h : p := by first | rfl | (simp [errW_none, errW_some] <;> rfl) | (simp [*, errW_none, errW_some] <;> rfl)) : p := h
theorem z51_4 {p : Prop} (h : p := by repeat (first | (with_reducible first | exact HB.out | apply below_alloc | apply pw_below_drewN | apply below_drew1) | exact HB.out)) : p := h
theorem z51_5 {p : Prop} (h : p := by first | exact Kd.S_nil _ _ _ _ _ | exact Kd.N_nil _ _ _ _ _ | exact Kd.V_nil _ _ _ _ _ | exact Kd.Q_nil _ _ _ _ _ | exact Kd.R_nil _ _ _ _ _) : p := h
theorem z51_6 {p : Prop} (h : p := by repeat (first | (with_reducible first | exact HB.out | apply below_alloc | apply pw_below_drewN | apply below_drew1 | refine below_set ?_ GE1096.out) | exact HB.out)) : p := h
theorem z51_7 {p : Prop} (h : p := by repeat (first | (with_reducible first | exact HB.out | apply below_alloc | apply pw_below_drewN | apply below_drew1 | refine below_set ?_ GE1096.out | refine below_set ?_ GE1097.out) | exact HB.out)) : p := h
theorem z51_8 {p : Prop} (h : p := by repeat (first | (with_reducible first | exact HB.out | apply below_alloc | apply pw_below_drewN | apply below_drew1 | refine below_set ?_ GE1096.out | refine below_set ?_ GE1097.out | refine below_set ?_ GE1101.out) | exact HB.out)) : p := h
theorem z51_9 {p : Prop} (h : p := by (with_reducible repeat (first | refine blk_drewN ?_ _ | refine blk_drew ?_ | refine blk_alloc ?_ _)); refine blk_far ?_ NB1096_1101.out _; (with_reducible repeat (first | refine blk_drewN ?_ _ | refine blk_drew ?_ | refine blk_alloc ?_ _)); exact BK1096.out) : p := h
theorem z51_10 {p : Prop} (h : p := by (with_reducible repeat (first | refine blk_drewN ?_ _ | refine blk_drew ?_ | refine blk_alloc ?_ _)); refine blk_far ?_ NB1097_1101.out _; (with_reducible repeat (first | refine blk_drewN ?_ _ | refine blk_drew ?_ | refine blk_alloc ?_ _)); exact BK1097.out) : p := h
theorem z51_11 {p : Prop} (h : p := by (with_reducible repeat (first | refine blk_drewN ?_ _ | refine blk_drew ?_ | refine blk_alloc ?_ _)); refine blk_put (cs := #[.slice none 0 0]) ?_ 0 _ rfl; (with_reducible repeat (first | refine blk_drewN ?_ _ | refine blk_drew ?_ | refine blk_alloc ?_ _)); exact BK1097.out) : p := h
/-! ### spec_TurnVals: function 51 -/
mutual
def spec_TurnVals.j0 : Nat → List Int → Bool → List (List (S85)) → Option ((List (List (S85))) × Bool)
  | 0, _, _, _ => none
  | k + 1, x1, x23, x1097000 => if x23 = true then (some (([] : List (List (S85))), false)) else (spec_TurnVals.l0 k x1 0 x1097000 ([] : List (List (S85))))
def spec_TurnVals.l0 : Nat → List Int → Int → List (List (S85)) → List (List (S85)) → Option ((List (List (S85))) × Bool)
  | 0, _, _, _, _ => none
  | k + 1, x1, x7, x1097000, x1102000 => if x7 < (x1097000.length : Int) then ((some (([] : List (S85)) : List (S85))).bind fun y1102 => (if 0 ≤ x7 then (if y1102.length + (rd_L7 x1097000 x7).length < 5864062014805 then (spec_TurnVals.l1 k x1 x7 (y1102 ++ (rd_L7 x1097000 x7)) 0 x1097000 x1102000) else (none)) else (none))) else (some (x1102000, true))
def spec_TurnVals.l1 : Nat → List Int → Int → List (S85) → Int → List (List (S85)) → List (List (S85)) → Option ((List (List (S85))) × Bool)
  | 0, _, _, _, _, _, _ => none
  | k + 1, x1, x7, x8, x9, x1097000, x1102000 => if x9 < (x8.length : Int) then (if 0 ≤ x9 then (if 0 ≤ ((rd_T85 x8 x9).f2) then (if ((rd_T85 x8 x9).f2) < (x1.length : Int) then (spec_TurnVals.l1 k x1 x7 (x8.set (x9 : Int).toNat (⟨(rd_T85 x8 x9).f0, (rd_T85 x8 x9).f1, rd x1 ((rd_T85 x8 x9).f2)⟩ : S85)) (wrap64 (x9 + 1)) x1097000 x1102000) else (none)) else (none)) else (none)) else (if x1102000.length < 5864062014805 then (spec_TurnVals.l0 k x1 (wrap64 (x7 + 1)) x1097000 (x1102000 ++ [x8])) else (none))
end
def spec_TurnVals.f (k : Nat) (l0_0 : List (List (S85))) (l1 : List Int) : Option ((List (List (S85))) × Bool) := (spec_ProgOk.f k l0_0).bind fun t1098 => (if t1098 = true then ((spec_l22Row.f k l1 4).bind fun t1099 => (if t1099 = true then (if 0 < (l1.length : Int) then (spec_TurnVals.j0 k l1 ((rd l1 0) != 0) l0_0) else (none)) else (spec_TurnVals.j0 k l1 true l0_0))) else (spec_TurnVals.j0 k l1 true l0_0))
theorem spec_TurnVals.mono_l : ∀ k, (∀ y0 y1 y2, LeO (spec_TurnVals.j0 k y0 y1 y2) (spec_TurnVals.j0 (k + 1) y0 y1 y2)) ∧ (∀ y0 y1 y2 y3, LeO (spec_TurnVals.l0 k y0 y1 y2 y3) (spec_TurnVals.l0 (k + 1) y0 y1 y2 y3)) ∧ (∀ y0 y1 y2 y3 y4 y5, LeO (spec_TurnVals.l1 k y0 y1 y2 y3 y4 y5) (spec_TurnVals.l1 (k + 1) y0 y1 y2 y3 y4 y5))
  | 0 => ⟨fun _ _ _ r h => by simp [spec_TurnVals.j0] at h, fun _ _ _ _ r h => by simp [spec_TurnVals.l0] at h, fun _ _ _ _ _ _ r h => by simp [spec_TurnVals.l1] at h⟩
  | k + 1 => by
    obtain ⟨ih0, ih1, ih2⟩ := spec_TurnVals.mono_l k
    refine ⟨?_, ?_, ?_⟩
    · intro y0 y1 y2
      unfold spec_TurnVals.j0
      repeat' first
      | (with_reducible exact ih0 _ _ _)
      | (with_reducible exact ih1 _ _ _ _)
      | (with_reducible exact ih2 _ _ _ _ _ _)
      | (with_reducible exact spec_ProgOk.mono _ _)
      | (with_reducible exact spec_l22Row.mono _ _ _)
      | (with_reducible exact LeO.refl _)
      | (with_reducible exact LeO.none _)
      | (with_reducible refine LeO.ite ?_ ?_)
      | (with_reducible refine LeO.bind ?_ (fun _ => ?_))
      | exact ih0 _ _ _
      | exact ih1 _ _ _ _
      | exact ih2 _ _ _ _ _ _
      | exact spec_ProgOk.mono _ _
      | exact spec_l22Row.mono _ _ _
      | exact LeO.none _
      | refine LeO.ite ?_ ?_
      | refine LeO.bind ?_ (fun _ => ?_)
    · intro y0 y1 y2 y3
      unfold spec_TurnVals.l0
      repeat' first
      | (with_reducible exact ih0 _ _ _)
      | (with_reducible exact ih1 _ _ _ _)
      | (with_reducible exact ih2 _ _ _ _ _ _)
      | (with_reducible exact spec_ProgOk.mono _ _)
      | (with_reducible exact spec_l22Row.mono _ _ _)
      | (with_reducible exact LeO.refl _)
      | (with_reducible exact LeO.none _)
      | (with_reducible refine LeO.ite ?_ ?_)
      | (with_reducible refine LeO.bind ?_ (fun _ => ?_))
      | exact ih0 _ _ _
      | exact ih1 _ _ _ _
      | exact ih2 _ _ _ _ _ _
      | exact spec_ProgOk.mono _ _
      | exact spec_l22Row.mono _ _ _
      | exact LeO.none _
      | refine LeO.ite ?_ ?_
      | refine LeO.bind ?_ (fun _ => ?_)
    · intro y0 y1 y2 y3 y4 y5
      unfold spec_TurnVals.l1
      repeat' first
      | (with_reducible exact ih0 _ _ _)
      | (with_reducible exact ih1 _ _ _ _)
      | (with_reducible exact ih2 _ _ _ _ _ _)
      | (with_reducible exact spec_ProgOk.mono _ _)
      | (with_reducible exact spec_l22Row.mono _ _ _)
      | (with_reducible exact LeO.refl _)
      | (with_reducible exact LeO.none _)
      | (with_reducible refine LeO.ite ?_ ?_)
      | (with_reducible refine LeO.bind ?_ (fun _ => ?_))
      | exact ih0 _ _ _
      | exact ih1 _ _ _ _
      | exact ih2 _ _ _ _ _ _
      | exact spec_ProgOk.mono _ _
      | exact spec_l22Row.mono _ _ _
      | exact LeO.none _
      | refine LeO.ite ?_ ?_
      | refine LeO.bind ?_ (fun _ => ?_)
theorem spec_TurnVals.mono : ∀ a0 a1 k, LeO (spec_TurnVals.f k a0 a1) (spec_TurnVals.f (k + 1) a0 a1) := by
  intro a0 a1 k
  obtain ⟨ih0, ih1, ih2⟩ := spec_TurnVals.mono_l k
  unfold spec_TurnVals.f
  repeat' first
      | (with_reducible exact ih0 _ _ _)
      | (with_reducible exact ih1 _ _ _ _)
      | (with_reducible exact ih2 _ _ _ _ _ _)
      | (with_reducible exact spec_ProgOk.mono _ _)
      | (with_reducible exact spec_l22Row.mono _ _ _)
      | (with_reducible exact LeO.refl _)
      | (with_reducible exact LeO.none _)
      | (with_reducible refine LeO.ite ?_ ?_)
      | (with_reducible refine LeO.bind ?_ (fun _ => ?_))
      | exact ih0 _ _ _
      | exact ih1 _ _ _ _
      | exact ih2 _ _ _ _ _ _
      | exact spec_ProgOk.mono _ _
      | exact spec_l22Row.mono _ _ _
      | exact LeO.none _
      | refine LeO.ite ?_ ?_
      | refine LeO.bind ?_ (fun _ => ?_)
set_option maxHeartbeats 8000000 in
set_option maxRecDepth 100000 in
theorem spec_TurnVals.calls (k : Nat) (A0_0 : Option Addr) (c0_0 : Nat) (l0_0 : List (List (S85))) (A1 : Option Addr) (c1 : Nat) (l1 : List Int) (r1 : List (List (S85))) (r2 : Bool) (w : World) (hr0_0 : Kd.C (Kd.slice 85 k85) w A0_0 l0_0.length l0_0) (hc0_0 : l0_0.length ≤ c0_0) (hr1 : Kd.C (Kd.int .i64) w A1 l1.length l1) (hc1 : l1.length ≤ c1) (h : spec_TurnVals.f k l0_0 l1 = some (r1, r2)) :
  Calls Try.prog 51 #[.agg #[.slice A0_0 l0_0.length c0_0], .slice A1 l1.length c1] w fun e w' => ∃ v0_ : Value, e = .returned (.tuple #[.agg #[v0_], .bool r2]) ∧ Kd.S (Kd.slice 85 k85) 82 w' w.heap.size (fun _ => True) v0_ r1 ∧ Below w.heap.size w w' := by
 have hu35 := Try.underlying35
 have HR0_0 := am_ hr0_0
 have HC0_0 := am_ hc0_0
 clear hr0_0 hc0_0
 have HR1 := am_ hr1
 have HC1 := am_ hc1
 clear hr1 hc1
 have HB := am_ (Below.refl w.heap.size w)
 have H : ((spec_ProgOk.f k l0_0).bind fun t1098 => (if t1098 = true then ((spec_l22Row.f k l1 4).bind fun t1099 => (if t1099 = true then (if 0 < (l1.length : Int) then (spec_TurnVals.j0 k l1 ((rd l1 0) != 0) l0_0) else (none)) else (spec_TurnVals.j0 k l1 true l0_0))) else (spec_TurnVals.j0 k l1 true l0_0))) = some (r1, r2) := h
 clear h
 have HC3 := am_ H
 clear H
 go_enter Try.func51, Try.ntmps51
 go_upto_region 1 with (first | ((with_reducible refine gate_dst (N := 2) rfl ?_); refine box_event ?hg (N := 2) ?hd (cs := #[.slice A0_0 l0_0.length c0_0]) (t := 35) ?hr ?_; (case hd => rfl); (case hg => rfl); (case hr => first | (go_simp; done) | (go_simp; rfl)); intro gb1096 hg w4 hbox hb; have n0_ := am_ (below_step z51_4 hb); have n1_ := am_ (hbox); have n2_ := am_ (by rw [hg]; exact (below_size z51_4) : w.heap.size ≤ gb1096); have n3_ := am_ (by rw [hg]; exact (below_size z51_4) : w.heap.size ≤ gb1096); clear HB; have HB := n0_; have BK1096 := n1_; have GW1096 := n2_; have GE1096 := n3_; clear n0_ n1_ n2_ n3_; clear hb hbox hg) | ((with_reducible refine gate_dst (N := 4) rfl ?_); refine box_event ?hg (N := 4) ?hd (cs := #[.slice none 0 0]) (t := 35) ?hr ?_; (case hd => rfl); (case hg => rfl); (case hr => first | (go_simp; done) | (go_simp; rfl)); intro gb1097 hg w5 hbox hb; have n0_ := am_ (blk_below (bu BK1096.out) hb); have n1_ := am_ (below_step z51_6 hb); have n2_ := am_ (hbox); have n3_ := am_ (by rw [hg]; exact (below_size z51_6) : w.heap.size ≤ gb1097); have n4_ := am_ (by rw [hg]; exact (below_size z51_6) : w.heap.size ≤ gb1097); have n5_ := am_ (by rw [hg]; exact Nat.ne_of_lt (blk_lt (bu BK1096.out)) : gb1096 ≠ gb1097); have n6_ := am_ (by rw [hg]; exact Nat.ne_of_gt (blk_lt (bu BK1096.out)) : gb1097 ≠ gb1096); clear BK1096 HB; have BK1096 := n0_; have HB := n1_; have BK1097 := n2_; have GW1097 := n3_; have GE1097 := n4_; have NB1096_1097 := n5_; have NB1097_1096 := n6_; clear n0_ n1_ n2_ n3_ n4_ n5_ n6_; clear hb hbox hg))
 (try simp only [Act.put, List.setIfInBounds_toArray, List.set_cons_zero, List.set_cons_succ])
 go_cut [23] (fun v23 wc => ∃ (kq : Nat) (x23_2 : Bool), v23 = .bool x23_2 ∧ Aside0 (spec_TurnVals.j0 kq l1 x23_2 l0_0 = some (r1, r2)) ∧ Aside0 (kq ≤ k) ∧ Aside0 (wc.heap[gb1096]? = some (.cells #[(.slice A0_0 l0_0.length c0_0)] 35 (0, 0))) ∧ Aside0 (wc.heap[gb1097]? = some (.cells #[(.slice none 0 0)] 35 (0, 0))) ∧ Aside0 (Below w.heap.size w wc))
 case first =>
  have H := HC3.out
  clear HC3
  replace H := Option.bind_eq_some_iff.mp H
  obtain ⟨t1098, A60, H⟩ := H
  replace H : (if t1098 = true then ((spec_l22Row.f k l1 4).bind fun t1099 => (if t1099 = true then (if 0 < (l1.length : Int) then (spec_TurnVals.j0 k l1 ((rd l1 0) != 0) l0_0) else (none)) else (spec_TurnVals.j0 k l1 true l0_0))) else (spec_TurnVals.j0 k l1 true l0_0)) = some (r1, r2) := H
  have A6 := am_ A60
  clear A60
  by_cases c7 : t1098 = true
  ·subst c7
   have H1 : ((spec_l22Row.f k l1 4).bind fun t1099 => (if t1099 = true then (if 0 < (l1.length : Int) then (spec_TurnVals.j0 k l1 ((rd l1 0) != 0) l0_0) else (none)) else (spec_TurnVals.j0 k l1 true l0_0))) = some (r1, r2) := by rw [if_pos rfl] at H; exact H
   clear H
   have H := H1
   clear H1
   replace H := Option.bind_eq_some_iff.mp H
   obtain ⟨t1099, A80, H⟩ := H
   replace H : (if t1099 = true then (if 0 < (l1.length : Int) then (spec_TurnVals.j0 k l1 ((rd l1 0) != 0) l0_0) else (none)) else (spec_TurnVals.j0 k l1 true l0_0)) = some (r1, r2) := H
   have A8 := am_ A80
   clear A80
   by_cases c9 : t1099 = true
   ·subst c9
    have H1 : (if 0 < (l1.length : Int) then (spec_TurnVals.j0 k l1 ((rd l1 0) != 0) l0_0) else (none)) = some (r1, r2) := by rw [if_pos rfl] at H; exact H
    clear H
    have H := H1
    clear H1
    by_cases c10 : 0 < (l1.length : Int)
    ·rw [if_pos c10] at H
     have c10b0 : decide (0 < (l1.length : Int)) = true := decide_eq_true c10
     have c10b1 : decide (0 < l1.length) = true := decide_eq_true (by omega)
     clear c10
     (first | rw [c10b0] | (simp only [i64_w, i32_w]; rw [c10b0]) | skip)
     have H' := am_ H
     clear H
     have hnb11 := NB1096_1097.out
     have hnc11 := NB1097_1096.out
     have hcz12_0 : w5.cell? ⟨gb1096, 0, none⟩ = some (.slice A0_0 l0_0.length c0_0) := (blk_cell BK1096.out 0).trans rfl
     have hfz12_0 := blk_frozen BK1096.out 0
     go_wp2_with (first | ((with_reducible refine gate_callee (f := 43) rfl ?_); refine goesL_ (some 11) rfl rfl Try.func43 (by kernel_rfl) rfl #[.agg #[.slice A0_0 l0_0.length c0_0]] rfl (by (try simp only [List.map_toArray, List.map_cons, List.map_nil]); first | done | rfl | (simp only [List.length_drop, List.length_take]; rfl)) ?_; (with_reducible refine (spec_ProgOk.calls k _ _ l0_0 true _ ?side1 ?side2 A6.out).mono ?_); (case side1 => repeat (first | exact (Kd.C_below HR0_0.out HB.out) | (with_reducible refine Kd.C_alloc ?_ _) | (with_reducible refine Kd.C_drewN ?_ _) | (with_reducible refine Kd.C_drew ?_))); (case side2 => exact HC0_0.out); rintro e w13 ⟨rfl, hb⟩; refine ⟨_, rfl, ?_⟩; have n0_ := am_ (blk_below (bu BK1096.out) hb); have n1_ := am_ (blk_below (bu BK1097.out) hb); have n2_ := am_ (below_step z51_7 hb); clear BK1096 BK1097 HB; have BK1096 := n0_; have BK1097 := n1_; have HB := n2_; clear n0_ n1_ n2_; (try clear hb); (try clear hb2); (try clear hk); (try clear hi)) | (go_at_call 100; (with_reducible refine (spec_l22Row.calls k _ _ l1 4 true _ ?side1 ?side2 A8.out).mono ?_); (case side1 => repeat (first | exact (Kd.C_below HR1.out HB.out) | (with_reducible refine Kd.C_alloc ?_ _) | (with_reducible refine Kd.C_drewN ?_ _) | (with_reducible refine Kd.C_drew ?_))); (case side2 => exact HC1.out); rintro e w' ⟨rfl, ⟨nd, rfl⟩⟩; have p1100 : 0 ≤ (0 : Int) := (by omega); have q1100 : 0 < (l1.length : Int) := of_decide_eq_true z51_2; obtain ⟨ad1100, e1100, hx1100_0⟩ := Kd.at_int HR1.out 0 p1100 q1100; cases e1100; have qi1100 : (0 < l1.length) = True := eq_true (by omega); (try rw [show ((0 : Int)).toNat = 0 from rfl] at hx1100_0); (try rw [Addr.add_zero'] at hx1100_0); replace hx1100_0 := (HB.out.cell (World.block_lt_of_cell? w _ hx1100_0)).trans hx1100_0; replace p1100 := eq_true p1100; replace q1100 := eq_true q1100))
     go_meet
     case rel => exact ⟨_, (((rd l1 0) != 0)), z51_1, H', ⟨by first | omega | exact Nat.le_refl _⟩, ⟨bu BK1096.out⟩, ⟨bu BK1097.out⟩, ⟨z51_7⟩⟩
    ·rw [if_neg c10] at H
     exact absurd H (by simp)
   ·replace c9 := Bool.eq_false_iff.mpr c9
    subst c9
    have H1 : (spec_TurnVals.j0 k l1 true l0_0) = some (r1, r2) := by rw [if_neg (show ¬ (false = true) by decide)] at H; exact H
    clear H
    have H := H1
    clear H1
    have H' := am_ H
    clear H
    have hnb14 := NB1096_1097.out
    have hnc14 := NB1097_1096.out
    have hcz15_0 : w5.cell? ⟨gb1096, 0, none⟩ = some (.slice A0_0 l0_0.length c0_0) := (blk_cell BK1096.out 0).trans rfl
    have hfz15_0 := blk_frozen BK1096.out 0
    go_wp2_with (first | ((with_reducible refine gate_callee (f := 43) rfl ?_); refine goesL_ (some 11) rfl rfl Try.func43 (by kernel_rfl) rfl #[.agg #[.slice A0_0 l0_0.length c0_0]] rfl (by (try simp only [List.map_toArray, List.map_cons, List.map_nil]); first | done | rfl | (simp only [List.length_drop, List.length_take]; rfl)) ?_; (with_reducible refine (spec_ProgOk.calls k _ _ l0_0 true _ ?side1 ?side2 A6.out).mono ?_); (case side1 => repeat (first | exact (Kd.C_below HR0_0.out HB.out) | (with_reducible refine Kd.C_alloc ?_ _) | (with_reducible refine Kd.C_drewN ?_ _) | (with_reducible refine Kd.C_drew ?_))); (case side2 => exact HC0_0.out); rintro e w16 ⟨rfl, hb⟩; refine ⟨_, rfl, ?_⟩; have n0_ := am_ (blk_below (bu BK1096.out) hb); have n1_ := am_ (blk_below (bu BK1097.out) hb); have n2_ := am_ (below_step z51_7 hb); clear BK1096 BK1097 HB; have BK1096 := n0_; have BK1097 := n1_; have HB := n2_; clear n0_ n1_ n2_; (try clear hb); (try clear hb2); (try clear hk); (try clear hi)) | (go_at_call 100; (with_reducible refine (spec_l22Row.calls k _ _ l1 4 false _ ?side1 ?side2 A8.out).mono ?_); (case side1 => repeat (first | exact (Kd.C_below HR1.out HB.out) | (with_reducible refine Kd.C_alloc ?_ _) | (with_reducible refine Kd.C_drewN ?_ _) | (with_reducible refine Kd.C_drew ?_))); (case side2 => exact HC1.out); rintro e w' ⟨rfl, ⟨nd, rfl⟩⟩))
    go_meet
    case rel => exact ⟨_, (true), z51_1, H', ⟨by first | omega | exact Nat.le_refl _⟩, ⟨bu BK1096.out⟩, ⟨bu BK1097.out⟩, ⟨z51_7⟩⟩
  ·replace c7 := Bool.eq_false_iff.mpr c7
   subst c7
   have H1 : (spec_TurnVals.j0 k l1 true l0_0) = some (r1, r2) := by rw [if_neg (show ¬ (false = true) by decide)] at H; exact H
   clear H
   have H := H1
   clear H1
   have H' := am_ H
   clear H
   have hnb17 := NB1096_1097.out
   have hnc17 := NB1097_1096.out
   have hcz18_0 : w5.cell? ⟨gb1096, 0, none⟩ = some (.slice A0_0 l0_0.length c0_0) := (blk_cell BK1096.out 0).trans rfl
   have hfz18_0 := blk_frozen BK1096.out 0
   go_wp2_with (first | ((with_reducible refine gate_callee (f := 43) rfl ?_); refine goesL_ (some 11) rfl rfl Try.func43 (by kernel_rfl) rfl #[.agg #[.slice A0_0 l0_0.length c0_0]] rfl (by (try simp only [List.map_toArray, List.map_cons, List.map_nil]); first | done | rfl | (simp only [List.length_drop, List.length_take]; rfl)) ?_; (with_reducible refine (spec_ProgOk.calls k _ _ l0_0 false _ ?side1 ?side2 A6.out).mono ?_); (case side1 => repeat (first | exact (Kd.C_below HR0_0.out HB.out) | (with_reducible refine Kd.C_alloc ?_ _) | (with_reducible refine Kd.C_drewN ?_ _) | (with_reducible refine Kd.C_drew ?_))); (case side2 => exact HC0_0.out); rintro e w19 ⟨rfl, hb⟩; refine ⟨_, rfl, ?_⟩; have n0_ := am_ (blk_below (bu BK1096.out) hb); have n1_ := am_ (blk_below (bu BK1097.out) hb); have n2_ := am_ (below_step z51_7 hb); clear BK1096 BK1097 HB; have BK1096 := n0_; have BK1097 := n1_; have HB := n2_; clear n0_ n1_ n2_; (try clear hb); (try clear hb2); (try clear hk); (try clear hi)))
   go_meet
   case rel => exact ⟨_, (true), z51_1, H', ⟨by first | omega | exact Nat.le_refl _⟩, ⟨bu BK1096.out⟩, ⟨bu BK1097.out⟩, ⟨z51_7⟩⟩
 case rest =>
  clear HC3
  obtain ⟨kq, x23_2, rfl, HA, HJ2, BK1096, BK1097, HB⟩ := hcut
  cases kq with
  | zero => exact absurd HA.out (by simp [spec_TurnVals.j0])
  | succ kj2 =>
   have H := HA.out
   clear HA
   simp only [spec_TurnVals.j0] at H
   by_cases c20 : x23_2 = true
   ·subst c20
    have H1 : (some (([] : List (List (S85))), false)) = some (r1, r2) := by rw [if_pos rfl] at H; exact H
    clear H
    have H := H1
    clear H1
    simp only [Option.some.injEq, Prod.mk.injEq] at H
    obtain ⟨rfl, rfl⟩ := H
    have hnb21 := NB1097_1096.out
    have hnc21 := NB1096_1097.out
    have hcz22_0 : wc.cell? ⟨gb1097, 0, none⟩ = some (.slice none 0 0) := (blk_cell BK1097.out 0).trans rfl
    have hfz22_0 := blk_frozen BK1097.out 0
    go_wp2
    refine bodyPost_ret (results_ct rfl _ _ gb1097 35 #[.slice none 0 0] (0, 0) _ rfl z51_11 Try.underlying35 rfl (by kernel_rfl)) rfl ?_
    exact ⟨_, z51_3, z51_5, z51_7⟩
   ·replace c20 := Bool.eq_false_iff.mpr c20
    subst c20
    have H1 : (spec_TurnVals.l0 kj2 l1 0 l0_0 ([] : List (List (S85)))) = some (r1, r2) := by rw [if_neg (show ¬ (false = true) by decide)] at H; exact H
    clear H
    have H := H1
    clear H1
    have H' := am_ H
    clear H
    go_wp2_with (first | ((with_reducible refine gate_dst (N := 6) rfl ?_); refine box_event ?hg (N := 6) ?hd (cs := #[.slice none 0 0]) (t := 35) ?hr ?_; (case hd => rfl); (case hg => rfl); (case hr => first | (go_simp; done) | (go_simp; rfl)); intro gb1101 hg w23 hbox hb; have n0_ := am_ (blk_below (bu BK1096.out) hb); have n1_ := am_ (blk_below (bu BK1097.out) hb); have n2_ := am_ (below_step z51_7 hb); have n3_ := am_ (hbox); have n4_ := am_ (by rw [hg]; exact (below_size z51_7) : w.heap.size ≤ gb1101); have n5_ := am_ (by rw [hg]; exact (below_size z51_7) : w.heap.size ≤ gb1101); have n6_ := am_ (by rw [hg]; exact Nat.ne_of_lt (blk_lt (bu BK1096.out)) : gb1096 ≠ gb1101); have n7_ := am_ (by rw [hg]; exact Nat.ne_of_gt (blk_lt (bu BK1096.out)) : gb1101 ≠ gb1096); have n8_ := am_ (by rw [hg]; exact Nat.ne_of_lt (blk_lt (bu BK1097.out)) : gb1097 ≠ gb1101); have n9_ := am_ (by rw [hg]; exact Nat.ne_of_gt (blk_lt (bu BK1097.out)) : gb1101 ≠ gb1097); clear BK1096 BK1097 HB; have BK1096 := n0_; have BK1097 := n1_; have HB := n2_; have BK1101 := n3_; have GW1101 := n4_; have GE1101 := n5_; have NB1096_1101 := n6_; have NB1101_1096 := n7_; have NB1097_1101 := n8_; have NB1101_1097 := n9_; clear n0_ n1_ n2_ n3_ n4_ n5_ n6_ n7_ n8_ n9_; clear hb hbox hg; have hnb24 := NB1101_1096.out; have hnc24 := NB1096_1101.out; have hnb25 := NB1101_1097.out; have hnc25 := NB1097_1101.out; have hcz26_0 : w23.cell? ⟨gb1101, 0, none⟩ = some (.slice none 0 0) := (blk_cell BK1101.out 0).trans rfl; have hfz26_0 := blk_frozen BK1101.out 0))
    go_loopg [7] kj2 (fun kq v7 w' => ∃ (x7_2 : Int) (x1102000_2 : List (List (S85))) (u1102000 : Value), v7 = .int .i64 x7_2 ∧ Aside0 (spec_TurnVals.l0 kq l1 x7_2 l0_0 x1102000_2 = some (r1, r2)) ∧ Aside0 (kq ≤ kj2) ∧ Aside0 (Kd.S (Kd.slice 85 k85) 82 w' w.heap.size (fun _ => True) u1102000 x1102000_2) ∧ Aside0 (w'.heap[gb1096]? = some (.cells #[(.slice A0_0 l0_0.length c0_0)] 35 (0, 0))) ∧ Aside0 (w'.heap[gb1097]? = some (.cells #[(.slice none 0 0)] 35 (0, 0))) ∧ Aside0 (w'.heap[gb1101]? = some (.cells #[u1102000] 35 (0, 0))) ∧ Aside0 (Below w.heap.size w w'))
    case atStart => exact ⟨(0), (([] : List (List (S85)))), (.slice none 0 0), z51_1, H', ⟨Nat.le_refl _⟩, ⟨z51_5⟩, ⟨z51_9⟩, ⟨z51_10⟩, ⟨by (with_reducible repeat (first | refine blk_drewN ?_ _ | refine blk_drew ?_ | refine blk_alloc ?_ _)); refine blk_put (cs := #[.slice none 0 0]) ?_ 0 _ rfl; (with_reducible repeat (first | refine blk_drewN ?_ _ | refine blk_drew ?_ | refine blk_alloc ?_ _)); exact BK1101.out⟩, ⟨z51_8⟩⟩
    case round =>
     clear H'
     obtain ⟨x7_2, x1102000_2, u1102000, rfl, HA, HK2, HO_1102000, BK1096, BK1097, BK1101, HB⟩ := hrel
     cases gk with
     | zero => exact absurd HA.out (by simp [spec_TurnVals.l0])
     | succ k2 =>
      have H := HA.out
      clear HA
      simp only [spec_TurnVals.l0] at H
      by_cases c27 : x7_2 < (l0_0.length : Int)
      ·rw [if_pos c27] at H
       have c27b0 : decide (x7_2 < (l0_0.length : Int)) = true := decide_eq_true c27
       clear c27
       obtain ⟨y1102, hy1102⟩ : ∃ y_ : List (S85), y_ = (([] : List (S85))) := ⟨_, rfl⟩
       replace H : (if 0 ≤ x7_2 then (if y1102.length + (rd_L7 l0_0 x7_2).length < 5864062014805 then (spec_TurnVals.l1 k2 l1 x7_2 (y1102 ++ (rd_L7 l0_0 x7_2)) 0 l0_0 x1102000_2) else (none)) else (none)) = some (r1, r2) := by first | (rw [hy1102]; with_reducible exact H) | (have H2_ := (Option.bind_some _ _).symm.trans H; rw [hy1102]; with_reducible exact H2_) | (have H2_ := (Option.bind_some _ _).symm.trans H; with_reducible exact H2_) | with_reducible exact H | (rw [hy1102]; exact H) | exact H
       have Ny1102 := am_ hy1102
       clear hy1102
       by_cases c28 : 0 ≤ x7_2
       ·rw [if_pos c28] at H
        have c28b0 : decide (0 ≤ x7_2) = true := decide_eq_true c28
        clear c28
        by_cases c29 : y1102.length + (rd_L7 l0_0 x7_2).length < 5864062014805
        ·rw [if_pos c29] at H
         have LMc29 := am_ c29
         clear c29
         obtain ⟨y1106, hy1106⟩ : ∃ y_ : List (S85), y_ = (y1102 ++ (rd_L7 l0_0 x7_2)) := ⟨_, rfl⟩
         replace H : (spec_TurnVals.l1 k2 l1 x7_2 y1106 0 l0_0 x1102000_2) = some (r1, r2) := by first | (rw [hy1106]; with_reducible exact H) | (have H2_ := (Option.bind_some _ _).symm.trans H; rw [hy1106]; with_reducible exact H2_) | (have H2_ := (Option.bind_some _ _).symm.trans H; with_reducible exact H2_) | with_reducible exact H | (rw [hy1106]; exact H) | exact H
         have Ny1106 := am_ hy1106
         clear hy1106
         have H' := am_ H
         clear H
         have hnb30 := NB1096_1097.out
         have hnc30 := NB1097_1096.out
         have hnb31 := NB1096_1101.out
         have hnc31 := NB1101_1096.out
         have hcz32_0 : wr.cell? ⟨gb1096, 0, none⟩ = some (.slice A0_0 l0_0.length c0_0) := (blk_cell BK1096.out 0).trans rfl
         have hfz32_0 := blk_frozen BK1096.out 0
         go_wp2_with (first | ((with_reducible refine gate_dst (N := 33) rfl ?_); refine Kd.R_lit k85 _ 85 ?hg (N := 33) ?hd (xs := ([] : List (S85))) (inner := []) (ok := fun _ => True) (okp := fun _ => True) ?hr ?hp (fun _ hk => hk) trivial (Below.refl _ _) (Nat.le_refl _) (by simp) ?_; (case hd => rfl); (case hg => rfl); (case hr => first | (go_simp; done) | (go_simp; rfl)); (case hp => exact (Reps.none _ _)); intro v1103 w33 ho34 hb hg_ hnew_; clear hg_ hnew_; (first | rw [← Ny1102.out] at ho34 | (simp only [Int.reduceToNat] at ho34; rw [← Ny1102.out] at ho34)); have n0_ := am_ (Kd.S_elder' (su HO_1102000.out) (Kd.R_base ho34) hb); have n1_ := am_ (Kd.R_lower ho34 (below_size z51_8)); have n2_ := am_ (blk_below (bu BK1096.out) hb); have n3_ := am_ (blk_below (bu BK1097.out) hb); have n4_ := am_ (blk_below (bu BK1101.out) hb); have n5_ := am_ (below_step z51_8 hb); clear HO_1102000 BK1096 BK1097 BK1101 HB; have HO_1102000 := n0_; have HO1104 := n1_; have BK1096 := n2_; have BK1097 := n3_; have BK1101 := n4_; have HB := n5_; clear n0_ n1_ n2_ n3_ n4_ n5_; clear hb ho34; have hcz35_0 : w33.cell? ⟨gb1096, 0, none⟩ = some (.slice A0_0 l0_0.length c0_0) := (blk_cell BK1096.out 0).trans rfl; have hfz35_0 := blk_frozen BK1096.out 0; have p1105 : 0 ≤ (x7_2 : Int) := of_decide_eq_true z51_2; have q1105 : x7_2 < (l0_0.length : Int) := of_decide_eq_true z51_2; obtain ⟨ad1105, A1105_0, c1105_0, e1105, hx1105_0, hl1105_0, hi1105_0⟩ := at_L7 HR0_0.out x7_2 p1105 q1105; cases e1105; replace hx1105_0 := (HB.out.cell (World.block_lt_of_cell? w _ hx1105_0)).trans hx1105_0; have HR1105_0 := am_ hi1105_0; have HC1105_0 := am_ hl1105_0; clear hi1105_0 hl1105_0; replace p1105 := eq_true p1105; replace q1105 := eq_true q1105) | ((with_reducible refine gate_builtin (b := .append) (xs := #[.tmp 33, .tmp 38]) rfl ?_); at_builtin; refine Kd.R_append_rows k85 (w0 := w) w.heap.size rfl (.tmp 33) (.tmp 38) 82 85 (.agg #[(.int .i64 0), (.int .i64 0), (.int .i64 0)]) 24 rfl Try.underlying82 info85 rfl (by decide) (by omega) v1103 y1102 (rd_L7 l0_0 x7_2) _ _ _ (fun _ => True) (fun _ => False) rfl rfl ?aO ?aR (fun _ _ h => h) (fun _ h => h.elim) ?aF ?aB ?aS ?aL ?_; (case aR => repeat (first | exact (Kd.C_below HR1105_0.out HB.out) | (with_reducible refine Kd.C_alloc ?_ _) | (with_reducible refine Kd.C_drewN ?_ _) | (with_reducible refine Kd.C_drew ?_))); (case aB => exact z51_8); (case aF => exact (fun _ _ => trivial)); (case aO => exact (ru HO1104.out)); (case aS => exact (below_size z51_8)); (case aL => have := LMc29.out; omega); intro v1107 w36 ho hb hg hat; rw [← Ny1106.out] at ho; have n0_ := am_ (Kd.S_after (ok := (fun _ => True)) (su HO_1102000.out) hg hat); have n1_ := am_ (blk_grown (bu BK1096.out) hg (Kd.R_ne HO1104.out BK1096.out (by decide))); have n2_ := am_ (blk_grown (bu BK1097.out) hg (Kd.R_ne HO1104.out BK1097.out (by decide))); have n3_ := am_ (blk_grown (bu BK1101.out) hg (Kd.R_ne HO1104.out BK1101.out (by decide))); have n4_ := am_ (hb); have n5_ := am_ (ho); clear HO_1102000 BK1096 BK1097 BK1101 HB HO1104; have HO_1102000 := n0_; have BK1096 := n1_; have BK1097 := n2_; have BK1101 := n3_; have HB := n4_; have HO1108 := n5_; clear n0_ n1_ n2_ n3_ n4_ n5_; clear ho hb hg hat))
         go_loopg [9] k2 (fun kq v9 w' => ∃ (x8_3 : List (S85)) (x9_3 : Int), v9 = .int .i64 x9_3 ∧ Aside0 (spec_TurnVals.l1 kq l1 x7_2 x8_3 x9_3 l0_0 x1102000_2 = some (r1, r2)) ∧ Aside0 (kq ≤ k2) ∧ Aside0 (Kd.R k85 85 w' w.heap.size (fun _ => True) v1107 x8_3) ∧ Aside0 (Kd.S (Kd.slice 85 k85) 82 w' w.heap.size (fun k_ => some k_ ≠ (v1107 : Value).ownBlock) u1102000 x1102000_2) ∧ Aside0 (w'.heap[gb1096]? = some (.cells #[(.slice (some ad1105) l0_0.length c0_0)] 35 (0, 0))) ∧ Aside0 (w'.heap[gb1097]? = some (.cells #[(.slice none 0 0)] 35 (0, 0))) ∧ Aside0 (w'.heap[gb1101]? = some (.cells #[u1102000] 35 (0, 0))) ∧ Aside0 (Below w.heap.size w w'))
         case atStart => exact ⟨(y1106), (0), z51_1, H', ⟨Nat.le_refl _⟩, ⟨ru HO1108.out⟩, ⟨su (Kd.S_mono HO_1102000.out (fun _ hk => hk.2))⟩, ⟨bu BK1096.out⟩, ⟨bu BK1097.out⟩, ⟨bu BK1101.out⟩, ⟨z51_8⟩⟩
         case round =>
          clear H'
          obtain ⟨x8_3, x9_3, rfl, HA, HK3, HO_8, HO_1102000, BK1096, BK1097, BK1101, HB⟩ := hrel
          cases gk with
          | zero => exact absurd HA.out (by simp [spec_TurnVals.l1])
          | succ k3 =>
           have H := HA.out
           clear HA
           simp only [spec_TurnVals.l1] at H
           by_cases c37 : x9_3 < (x8_3.length : Int)
           ·rw [if_pos c37] at H
            have c37b0 : decide (x9_3 < (x8_3.length : Int)) = true := decide_eq_true c37
            clear c37
            by_cases c38 : 0 ≤ x9_3
            ·rw [if_pos c38] at H
             have c38b0 : decide (0 ≤ x9_3) = true := decide_eq_true c38
             clear c38
             by_cases c39 : 0 ≤ ((rd_T85 x8_3 x9_3).f2)
             ·rw [if_pos c39] at H
              have c39b0 : decide (0 ≤ ((rd_T85 x8_3 x9_3).f2)) = true := decide_eq_true c39
              clear c39
              by_cases c40 : ((rd_T85 x8_3 x9_3).f2) < (l1.length : Int)
              ·rw [if_pos c40] at H
               have c40b0 : decide (((rd_T85 x8_3 x9_3).f2) < (l1.length : Int)) = true := decide_eq_true c40
               clear c40
               obtain ⟨y1111, hy1111⟩ : ∃ y_ : List (S85), y_ = (x8_3.set (x9_3 : Int).toNat (⟨(rd_T85 x8_3 x9_3).f0, (rd_T85 x8_3 x9_3).f1, rd l1 ((rd_T85 x8_3 x9_3).f2)⟩ : S85)) := ⟨_, rfl⟩
               replace H : (spec_TurnVals.l1 k3 l1 x7_2 y1111 (wrap64 (x9_3 + 1)) l0_0 x1102000_2) = some (r1, r2) := by first | (rw [hy1111]; with_reducible exact H) | (have H2_ := (Option.bind_some _ _).symm.trans H; rw [hy1111]; with_reducible exact H2_) | (have H2_ := (Option.bind_some _ _).symm.trans H; with_reducible exact H2_) | with_reducible exact H | (rw [hy1111]; exact H) | exact H
               have Ny1111 := am_ hy1111
               clear hy1111
               have H' := am_ H
               clear H
               obtain ⟨Ao42, co42, eo42⟩ := Kd.R_slice HO_8.out
               subst eo42
               have p1109 : 0 ≤ (x9_3 : Int) := of_decide_eq_true z51_2
               have q1109 : x9_3 < (x8_3.length : Int) := of_decide_eq_true z51_2
               obtain ⟨ad1109, e1109, hx1109_0, hx1109_1, hx1109_2⟩ := at_T85 (Kd.R_reads' HO_8.out).2.2 x9_3 p1109 q1109
               cases e1109
               replace p1109 := eq_true p1109
               replace q1109 := eq_true q1109
               have p1110 : 0 ≤ (((rd_T85 x8_3 x9_3).f2) : Int) := of_decide_eq_true z51_2
               have q1110 : ((rd_T85 x8_3 x9_3).f2) < (l1.length : Int) := of_decide_eq_true z51_2
               obtain ⟨ad1110, e1110, hx1110_0⟩ := Kd.at_int HR1.out ((rd_T85 x8_3 x9_3).f2) p1110 q1110
               cases e1110
               replace hx1110_0 := (HB.out.cell (World.block_lt_of_cell? w _ hx1110_0)).trans hx1110_0
               replace p1110 := eq_true p1110
               replace q1110 := eq_true q1110
               have p41 : 0 ≤ (x9_3 : Int) := of_decide_eq_true z51_2
               have q41 : (x9_3 : Int) < ((x8_3.length : Int) : Int) := of_decide_eq_true z51_2
               obtain ⟨go41, co41, eo41, gb41, gl41, cl41, HG41⟩ := Kd.R_form HO_8.out (by omega)
               (first | cases eo41 | (injection eo41 with ea_ en_ ec_; (first | subst ea_ | (injection ea_ with ea_; subst ea_)); subst ec_; clear en_))
               have GB41 := am_ gb41
               have GG41 := am_ HG41
               clear gb41 gl41 HG41
               (first | simp only [add_plain] at hx1109_0 | skip)
               (first | simp only [add_plain] at hx1109_1 | skip)
               (first | simp only [add_plain] at hx1109_2 | skip)
               obtain ⟨ce41, hcl41, hM41, hcc41, hfr41⟩ := Kd.R_elem HO_8.out z85 (x9_3 : Int) p41 q41
               obtain rfl := k85_openM hM41
               have hx41_0 : wr.cell? ⟨go41, (x9_3 : Int).toNat * 3, none⟩ = some (.int .i64 ((rd_T85 x8_3 x9_3).f0)) := hcc41 0 _ rfl
               have hx41_1 : wr.cell? ⟨go41, (x9_3 : Int).toNat * 3 + 1, none⟩ = some (.int .i64 ((rd_T85 x8_3 x9_3).f1)) := hcc41 1 _ rfl
               have hx41_2 : wr.cell? ⟨go41, (x9_3 : Int).toNat * 3 + 2, none⟩ = some (.int .i64 ((rd_T85 x8_3 x9_3).f2)) := hcc41 2 _ rfl
               have hf41_0 : wr.frozen? ⟨go41, (x9_3 : Int).toNat * 3, none⟩ = false := hfr41 0
               have hf41_1 : wr.frozen? ⟨go41, (x9_3 : Int).toNat * 3 + 1, none⟩ = false := hfr41 1
               have hf41_2 : wr.frozen? ⟨go41, (x9_3 : Int).toNat * 3 + 2, none⟩ = false := hfr41 2
               clear hcl41 hcc41 hfr41 hM41
               replace p41 := eq_true p41
               replace q41 := eq_true q41
               have HX43 := am_ (show Kd.R k85 85 wr w.heap.size (fun _ => True) (.slice (some ⟨go41, 0, none⟩) x8_3.length co42) x8_3 from (ru HO_8.out))
               obtain ⟨ce43, hcl43, hM43, hcc43, hfr43⟩ := Kd.R_elem HX43.out z85 (x9_3 : Int) (of_decide_eq_true z51_2) (by have h_ : (x9_3 : Int) < ((x8_3.length : Int) : Int) := of_decide_eq_true z51_2; first | exact h_ | (have e_ := (Kd.R_reads' HO_8.out).1; omega) | simpa using h_)
               obtain rfl := k85_openM hM43
               have HP43 := Kd.R_seg HX43.out (x9_3 : Int) (of_decide_eq_true z51_2) (by have h_ : (x9_3 : Int) < ((x8_3.length : Int) : Int) := of_decide_eq_true z51_2; first | exact h_ | (have e_ := (Kd.R_reads' HO_8.out).1; omega) | simpa using h_) (seg := [.int .i64 (rd l1 ((rd_T85 x8_3 x9_3).f2))]) (j := 2) hcl43 hcc43 (show 3 ≤ 3 from by decide) (x' := (⟨(rd_T85 x8_3 x9_3).f0, (rd_T85 x8_3 x9_3).f1, rd l1 ((rd_T85 x8_3 x9_3).f2)⟩ : S85)) (k85_mkM _ _ _ (⟨(rd_T85 x8_3 x9_3).f0, (rd_T85 x8_3 x9_3).f1, rd l1 ((rd_T85 x8_3 x9_3).f2)⟩ : S85) ) (fun _ hk => hk)
               have hx43_2 := hcc43 2 _ rfl
               (try simp only [show (k85).sz = 3 from rfl, Nat.mul_one, Nat.add_zero] at hx43_2)
               have hf43_2 := hfr43 2
               (try simp only [show (k85).sz = 3 from rfl, Nat.mul_one, Nat.add_zero] at hf43_2)
               clear hcl43 hcc43 hfr43 hM43
               go_wp2_with (first | ((with_reducible refine gate_store (t := 3) (p := 57) rfl ?_); refine store_event (t := 3) (p := 57) (v := ?vo_w44) (w1 := (wr.setCell ⟨go41, (x9_3 : Int).toNat * 3 + 2, none⟩ (.int .i64 (rd l1 ((rd_T85 x8_3 x9_3).f2))))) ?hg ?ho ?hn ?hr ?_; (case ho => rfl); (case hg => rfl); (case hn => rfl); (case hr => first | (go_simp; done) | (go_simp; rfl)); intro w44 hw; have hg : wr.grownBy w44 (some go41) := (by rw [hw]; exact HP43.2); have hp_ : Kd.R k85 85 w44 w.heap.size (fun _ => True) (.slice (some ⟨go41, 0, none⟩) x8_3.length co42) y1111 := (by rw [hw, Ny1111.out]; exact HP43.1); clear HP43; have n0_ := am_ (hp_); have n1_ := am_ (Kd.S_after (v := (.slice (some ⟨go41, 0, none⟩) x8_3.length co42)) (v1 := (.slice (some ⟨go41, 0, none⟩) x8_3.length co42)) (ok := (fun _ => True)) (su (Kd.S_mono HO_1102000.out (fun _ hk => ⟨trivial, hk⟩))) hg (.inl rfl)); have n2_ := am_ (blk_grown (bu BK1096.out) hg (Kd.R_ne HO_8.out BK1096.out (by decide))); have n3_ := am_ (blk_grown (bu BK1097.out) hg (Kd.R_ne HO_8.out BK1097.out (by decide))); have n4_ := am_ (blk_grown (bu BK1101.out) hg (Kd.R_ne HO_8.out BK1101.out (by decide))); have n5_ := am_ (by rw [hw]; exact below_set (HB.out) GB41.out : Below w.heap.size w w44); clear HO_8 HO_1102000 BK1096 BK1097 BK1101 HB; have HO_8 := n0_; have HO_1102000 := n1_; have BK1096 := n2_; have BK1097 := n3_; have BK1101 := n4_; have HB := n5_; clear n0_ n1_ n2_ n3_ n4_ n5_; clear hg hw hp_))
               go_roundg k3
               case measure => have := HJ2.out; have := HK2.out; have := HK3.out; omega
               case rel => exact ⟨(y1111), (wrap64 (x9_3 + 1)), z51_1, H', ⟨by have := HJ2.out; have := HK2.out; have := HK3.out; omega⟩, ⟨ru HO_8.out⟩, ⟨su (Kd.S_mono HO_1102000.out (fun _ hk => hk.2))⟩, ⟨bu BK1096.out⟩, ⟨bu BK1097.out⟩, ⟨bu BK1101.out⟩, ⟨z51_8⟩⟩
              ·rw [if_neg c40] at H
               exact absurd H (by simp)
             ·rw [if_neg c39] at H
              exact absurd H (by simp)
            ·rw [if_neg c38] at H
             exact absurd H (by simp)
           ·rw [if_neg c37] at H
            have c37b0 : decide (x9_3 < (x8_3.length : Int)) = false := decide_eq_false c37
            clear c37
            by_cases c45 : x1102000_2.length < 5864062014805
            ·rw [if_pos c45] at H
             have LMc45 := am_ c45
             clear c45
             obtain ⟨y1112, hy1112⟩ : ∃ y_ : List (List (S85)), y_ = (x1102000_2 ++ [x8_3]) := ⟨_, rfl⟩
             replace H : (spec_TurnVals.l0 k3 l1 (wrap64 (x7_2 + 1)) l0_0 y1112) = some (r1, r2) := by first | (rw [hy1112]; with_reducible exact H) | (have H2_ := (Option.bind_some _ _).symm.trans H; rw [hy1112]; with_reducible exact H2_) | (have H2_ := (Option.bind_some _ _).symm.trans H; with_reducible exact H2_) | with_reducible exact H | (rw [hy1112]; exact H) | exact H
             have Ny1112 := am_ hy1112
             clear hy1112
             have H' := am_ H
             clear H
             obtain ⟨Ao46, co46, eo46⟩ := Kd.R_slice HO_8.out
             subst eo46
             have hnb47 := NB1101_1096.out
             have hnc47 := NB1096_1101.out
             have hnb48 := NB1101_1097.out
             have hnc48 := NB1097_1101.out
             have hcz49_0 : wr.cell? ⟨gb1101, 0, none⟩ = some (u1102000) := (blk_cell BK1101.out 0).trans rfl
             have hfz49_0 := blk_frozen BK1101.out 0
             go_wp2_with (first | ((with_reducible refine gate_builtin (b := .append) (xs := #[.tmp 59, .tmp 61]) rfl ?_); at_builtin; refine Kd.S_append (Kd.slice 85 k85) (w0 := w) w.heap.size rfl (.tmp 59) (.tmp 61) 33 82 (.slice none 0 0) 24 rfl Try.underlying33 info82 rfl (by decide) (by omega) u1102000 x1102000_2 x8_3 [.slice Ao46 x8_3.length co46] (fun _ => True) (fun k_ => some k_ = (.slice Ao46 x8_3.length co46 : Value).ownBlock) rfl rfl ?aP (fun k_ hk_ => ((Kd.R_mono (ok' := fun k_ => ((fun _ => True)) k_ ∧ some k_ ≠ (u1102000 : Value).ownBlock) (Kd.R_apart' (HO_8.out) (Kd.S_typed HO_1102000.out) (by decide)) (fun k_ hk => ⟨trivial, hk.2⟩))).1 k_ hk_.symm) ?aF ?aO ?aB ?aS ?aL ?_; (case aP => exact Kd.M_row (Kd.R_mono (Kd.R_tight rfl (Kd.R_mono (ok' := fun k_ => ((fun _ => True)) k_ ∧ some k_ ≠ (u1102000 : Value).ownBlock) (Kd.R_apart' (HO_8.out) (Kd.S_typed HO_1102000.out) (by decide)) (fun k_ hk => ⟨trivial, hk.2⟩))) (fun _ h_ => h_))); (case aB => exact z51_8); (case aF => exact (fun _ _ => trivial)); (case aO => exact (su (Kd.S_mono HO_1102000.out (fun k_ hk => ⟨trivial, fun e_ => hk e_⟩)))); (case aS => exact (below_size z51_8)); (case aL => have := LMc45.out; omega); intro v1113 w50 ho hb hg hat; rw [← Ny1112.out] at ho; have n0_ := am_ (blk_grown (bu BK1096.out) hg (Kd.S_ne HO_1102000.out BK1096.out (by decide))); have n1_ := am_ (blk_grown (bu BK1097.out) hg (Kd.S_ne HO_1102000.out BK1097.out (by decide))); have n2_ := am_ (blk_grown (bu BK1101.out) hg (Kd.S_ne HO_1102000.out BK1101.out (by decide))); have n3_ := am_ (hb); have n4_ := am_ (ho); clear BK1096 BK1097 BK1101 HB HO_1102000 HO_8; have BK1096 := n0_; have BK1097 := n1_; have BK1101 := n2_; have HB := n3_; have HO1114 := n4_; clear n0_ n1_ n2_ n3_ n4_; clear ho hb hg hat; obtain ⟨Ao51, co51, eo51⟩ := Kd.S_slice HO1114.out; subst eo51; have hcz52_0 : w50.cell? ⟨gb1101, 0, none⟩ = some (u1102000) := (blk_cell BK1101.out 0).trans rfl; have hfz52_0 := blk_frozen BK1101.out 0))
             go_roundg k3
             case measure => have := HJ2.out; have := HK2.out; have := HK3.out; omega
             case rel => exact ⟨(wrap64 (x7_2 + 1)), (y1112), (.slice Ao51 y1112.length co51), z51_1, H', ⟨by have := HJ2.out; have := HK2.out; have := HK3.out; omega⟩, ⟨su (Kd.S_mono (Kd.S_far (p := ⟨gb1101, 0, none⟩) (Kd.S_types HO1114.out BK1101.out (by decide)) (fun _ hk => hk.2) (.slice Ao51 y1112.length co51)) (fun _ hk => trivial))⟩, ⟨z51_9⟩, ⟨z51_10⟩, ⟨by (with_reducible repeat (first | refine blk_drewN ?_ _ | refine blk_drew ?_ | refine blk_alloc ?_ _)); refine blk_put (cs := #[u1102000]) ?_ 0 _ rfl; (with_reducible repeat (first | refine blk_drewN ?_ _ | refine blk_drew ?_ | refine blk_alloc ?_ _)); exact BK1101.out⟩, ⟨z51_8⟩⟩
            ·rw [if_neg c45] at H
             exact absurd H (by simp)
        ·rw [if_neg c29] at H
         exact absurd H (by simp)
       ·rw [if_neg c28] at H
        exact absurd H (by simp)
      ·rw [if_neg c27] at H
       have c27b0 : decide (x7_2 < (l0_0.length : Int)) = false := decide_eq_false c27
       clear c27
       simp only [Option.some.injEq, Prod.mk.injEq] at H
       obtain ⟨rfl, rfl⟩ := H
       have hnb53 := NB1096_1097.out
       have hnc53 := NB1097_1096.out
       have hnb54 := NB1096_1101.out
       have hnc54 := NB1101_1096.out
       have hcz55_0 : wr.cell? ⟨gb1096, 0, none⟩ = some (.slice A0_0 l0_0.length c0_0) := (blk_cell BK1096.out 0).trans rfl
       have hfz55_0 := blk_frozen BK1096.out 0
       have hnb56 := NB1101_1097.out
       have hnc56 := NB1097_1101.out
       have hcz57_0 : wr.cell? ⟨gb1101, 0, none⟩ = some (u1102000) := (blk_cell BK1101.out 0).trans rfl
       have hfz57_0 := blk_frozen BK1101.out 0
       obtain ⟨Ao58, co58, eo58⟩ := Kd.S_slice HO_1102000.out
       subst eo58
       have hcz59_0 : wr.cell? ⟨gb1097, 0, none⟩ = some (.slice none 0 0) := (blk_cell BK1097.out 0).trans rfl
       have hfz59_0 := blk_frozen BK1097.out 0
       go_wp2
       refine bodyPost_ret (results_ct rfl _ _ gb1097 35 #[.slice Ao58 x1102000_2.length co58] (0, 0) _ rfl z51_11 Try.underlying35 rfl (by kernel_rfl)) rfl ?_
       exact ⟨_, z51_3, su (Kd.S_mono (Kd.S_far (p := ⟨gb1097, 0, none⟩) (Kd.S_types HO_1102000.out BK1097.out (by decide)) (fun _ hk => hk.2) (.slice Ao58 x1102000_2.length co58)) (fun _ hk => trivial)), z51_8⟩

end Go.Proofs.Ytefkbmhkhpekjaa.PB

namespace Go.Proofs.Ytefkbmhkhpekjaa.PB
open Go.RowKit Go.Proofs.YtefkbmhkhpekjaaW.PrintWords Go.Proofs.YtefkbmhkhpekjaaW.PrintLast Go.Proofs.YtefkbmhkhpekjaaW.PrintMore
attribute [local go_sem] max2_int min2_int max_two min_two max_three min_three max_four min_four   -- for this text's walks alone
open Go.Proofs.YtefkbmhkhpekjaaMine
set_option linter.unusedVariables false
set_option linter.unusedSimpArgs false

/-! ### impl_Do_98: function 98 -/
def impl_Do_98.f (l0 : List S85) : Option (List S85) := if l0.length < 1048577 then some l0 else none
set_option maxRecDepth 100000 in
set_option maxHeartbeats 800000 in
theorem impl_Do_98.calls (A0 : Option Addr) (c0 : Nat) (l0 : List S85) (r : List S85) (w : World) (hr0 : Kd.C k85 w A0 l0.length l0) (hc0 : l0.length ≤ c0) (h : impl_Do_98.f l0 = some r) :
  Calls Try.prog 98 #[.slice A0 l0.length c0] w fun e w' => ∃ v0_ : Value, e = .returned (v0_) ∧ Kd.R k85 85 w' w.heap.size (fun _ => True) v0_ r ∧ Below w.heap.size w w' := by
 unfold impl_Do_98.f at h
 split at h
 ·rename_i hl
  injection h with h; subst h
  have qT : ∀ (w : World) (a : Option Addr) (n c n' c' : Nat), (binOp .eql 82 (.slice a n c) (.slice none n' c')).run Try.prog w = .ok (.bool a.isNone) w := fun w a n c n' c' => Lib.run_eql_slice_nil w _ _ a n c n' c' Try.underlying82
  rcases A0 with _ | ad
  ·obtain rfl := nil_of_none hr0
   go_enter Try.func98, Try.ntmps98
   go_wp2_with fail
   go_ret
   exact ⟨_, rfl, Kd.R_nil _ _ _ _ _, Below.refl _ _⟩
  ·go_enter Try.func98, Try.ntmps98
   go_wp2_with (at_builtin; refine park ?_)
   refine ⟨?_⟩
   refine Kd.R_append_rows k85 (Rr := k85.K (w.alloc (Obj.cells #[] 85))) (w0 := w) w.heap.size (by rfl) (.tmp 5) (.tmp 6) 82 85 (.agg #[(.int .i64 0), (.int .i64 0), (.int .i64 0)]) 24 rfl Try.underlying82 info85 rfl (by decide) (by omega) (.slice (some ⟨w.heap.size, 0, none⟩) 0 0) [] l0 (some ad) l0.length c0 (fun _ => True) (fun _ => False) rfl rfl ?aO ?aR ?aK (fun _ h => h.elim) (fun _ _ => trivial) ?aB (by simp) ?aL ?_
   case aO => exact R_empty _ _ _ _ _ (Nat.le_refl _) trivial
   case aR => exact C_rows (Kd.C_below hr0 (below_alloc (Below.refl _ _) _))
   case aK => intro x cs hx; rw [k85_open hx]; exact k85_mkM _ _ _ _
   case aB => exact below_alloc (Below.refl _ _) _
   case aL => simp; omega
   intro v1 w1 ho1 hb1 _ _
   go_wp2_with fail
   go_ret
   exact ⟨_, rfl, by simpa using ho1, hb1⟩
 ·cases h


end Go.Proofs.Ytefkbmhkhpekjaa.PB

namespace Go.Proofs.Ytefkbmhkhpekjaa.PB
open Go.RowKit Go.Proofs.YtefkbmhkhpekjaaW.PrintWords Go.Proofs.YtefkbmhkhpekjaaW.PrintLast Go.Proofs.YtefkbmhkhpekjaaW.PrintMore
attribute [local go_sem] max2_int min2_int max_two min_two max_three min_three max_four min_four   -- for this text's walks alone
open Go.Proofs.YtefkbmhkhpekjaaMine
set_option linter.unusedVariables false
set_option linter.unusedSimpArgs false

theorem z90_1 {p : Prop} (h : p := by repeat (first | (with_reducible first | exact HB.out | apply below_alloc | apply pw_below_drewN | apply below_drew1) | exact HB.out)) : p := h
theorem z90_2 {p : Prop} (h : p := by repeat (first | (with_reducible first | exact HB.out | apply below_alloc | apply pw_below_drewN | apply below_drew1 | refine below_set ?_ GE415.out) | exact HB.out)) : p := h
theorem z90_3 {p : Prop} (h : p := by repeat (first | (with_reducible first | exact HB.out | apply below_alloc | apply pw_below_drewN | apply below_drew1 | refine below_set ?_ GE415.out | refine below_set ?_ GE416.out) | exact HB.out)) : p := h
theorem z90_4 {p : Prop} (h : p := by repeat (first | (with_reducible first | exact HB.out | apply below_alloc | apply pw_below_drewN | apply below_drew1 | refine below_set ?_ GE415.out | refine below_set ?_ GE416.out | refine below_set ?_ GE417.out) | exact HB.out)) : p := h
/-! ### impl_Prog_copied: function 90 -/
def impl_Prog_copied.l0 : Nat → List (List (S85)) → Int → Int → List (List (S85)) → Option ((List (List (S85))))
  | 0, _, _, _, _ => none
  | k + 1, x7, x8, x9, x418000 => if x9 < x8 then (if 0 ≤ x9 then (if x9 < (x7.length : Int) then ((impl_Do_98.f (rd_L7 x7 x9)).bind fun t419 => (if x418000.length < 5864062014805 then (impl_Prog_copied.l0 k x7 x8 (wrap64 (x9 + 1)) (x418000 ++ [t419])) else (none))) else (none)) else (none)) else (some x418000)
def impl_Prog_copied.f (k : Nat) (l0_0 : List (List (S85))) : Option ((List (List (S85)))) := impl_Prog_copied.l0 k l0_0 (l0_0.length : Int) 0 ([] : List (List (S85)))
theorem impl_Prog_copied.mono_l : ∀ k, (∀ y0 y1 y2 y3, LeO (impl_Prog_copied.l0 k y0 y1 y2 y3) (impl_Prog_copied.l0 (k + 1) y0 y1 y2 y3))
  | 0 => fun _ _ _ _ r h => by simp [impl_Prog_copied.l0] at h
  | k + 1 => by
    have ih0 := impl_Prog_copied.mono_l k
    · intro y0 y1 y2 y3
      unfold impl_Prog_copied.l0
      repeat' first
      | (with_reducible exact ih0 _ _ _ _)
      | (with_reducible exact LeO.refl _)
      | (with_reducible exact LeO.none _)
      | (with_reducible refine LeO.ite ?_ ?_)
      | (with_reducible refine LeO.bind ?_ (fun _ => ?_))
      | exact ih0 _ _ _ _
      | exact LeO.none _
      | refine LeO.ite ?_ ?_
      | refine LeO.bind ?_ (fun _ => ?_)
theorem impl_Prog_copied.mono : ∀ a0 k, LeO (impl_Prog_copied.f k a0) (impl_Prog_copied.f (k + 1) a0) := by
  intro a0 k
  have ih0 := impl_Prog_copied.mono_l k
  unfold impl_Prog_copied.f
  repeat' first
      | (with_reducible exact ih0 _ _ _ _)
      | (with_reducible exact LeO.refl _)
      | (with_reducible exact LeO.none _)
      | (with_reducible refine LeO.ite ?_ ?_)
      | (with_reducible refine LeO.bind ?_ (fun _ => ?_))
      | exact ih0 _ _ _ _
      | exact LeO.none _
      | refine LeO.ite ?_ ?_
      | refine LeO.bind ?_ (fun _ => ?_)
def impl_Prog_copied.T5 : Bool × List (List Nat × List Nat) := (true, [([], []), ([0], [0]), ([], []), ([2], [2]), ([3], [3]), ([1, 4, 3], [1, 4]), ([0, 1, 2, 3, 4, 5], []), ([6, 5, 5, 0, 1, 2, 3, 4, 5], [5, 6])])
def impl_Prog_copied.B5 : List Nat := [0, 1, 0, 4, 12, 31, 63, 127]
theorem impl_Prog_copied.tab5 : rtab .any (opsOf Try.f90 5) = impl_Prog_copied.T5 := by kernel_rfl
theorem impl_Prog_copied.bits5 : waitsOk impl_Prog_copied.T5.2 impl_Prog_copied.B5 = true := by kernel_rfl
set_option maxHeartbeats 8000000 in
set_option maxRecDepth 100000 in
theorem impl_Prog_copied.calls (k : Nat) (A0_0 : Option Addr) (c0_0 : Nat) (l0_0 : List (List (S85))) (r : List (List (S85))) (w : World) (hr0_0 : Kd.C (Kd.slice 85 k85) w A0_0 l0_0.length l0_0) (hc0_0 : l0_0.length ≤ c0_0) (h : impl_Prog_copied.f k l0_0 = some r) :
  Calls Try.prog 90 #[.agg #[.slice A0_0 l0_0.length c0_0]] w fun e w' => ∃ v0_ : Value, e = .returned (.agg #[v0_]) ∧ Kd.S (Kd.slice 85 k85) 82 w' w.heap.size (fun _ => True) v0_ r ∧ Below w.heap.size w w' := by
 have hu35 := Try.underlying35
 have HR0_0 := am_ hr0_0
 have HC0_0 := am_ hc0_0
 clear hr0_0 hc0_0
 have HB := am_ (Below.refl w.heap.size w)
 have H : (impl_Prog_copied.l0 k l0_0 (l0_0.length : Int) 0 ([] : List (List (S85)))) = some r := h
 clear h
 have H' := am_ H
 clear H
 go_enter Try.func90, Try.ntmps90
 go_wp2_with (first | ((with_reducible refine gate_dst (N := 1) rfl ?_); refine box_event ?hg (N := 1) ?hd (cs := #[.slice A0_0 l0_0.length c0_0]) (t := 35) ?hr ?_; (case hd => rfl); (case hg => rfl); (case hr => first | (go_simp; done) | (go_simp; rfl)); intro gb415 hg w2 hbox hb; have n0_ := am_ (below_step z90_1 hb); have n1_ := am_ (hbox); have n2_ := am_ (by rw [hg]; exact (below_size z90_1) : w.heap.size ≤ gb415); have n3_ := am_ (by rw [hg]; exact (below_size z90_1) : w.heap.size ≤ gb415); clear HB; have HB := n0_; have BK415 := n1_; have GW415 := n2_; have GE415 := n3_; clear n0_ n1_ n2_ n3_; clear hb hbox hg) | ((with_reducible refine gate_dst (N := 2) rfl ?_); refine box_event ?hg (N := 2) ?hd (cs := #[.slice none 0 0]) (t := 35) ?hr ?_; (case hd => rfl); (case hg => rfl); (case hr => first | (go_simp; done) | (go_simp; rfl)); intro gb416 hg w3 hbox hb; have n0_ := am_ (blk_below (bu BK415.out) hb); have n1_ := am_ (below_step z90_2 hb); have n2_ := am_ (hbox); have n3_ := am_ (by rw [hg]; exact (below_size z90_2) : w.heap.size ≤ gb416); have n4_ := am_ (by rw [hg]; exact (below_size z90_2) : w.heap.size ≤ gb416); have n5_ := am_ (by rw [hg]; exact Nat.ne_of_lt (blk_lt (bu BK415.out)) : gb415 ≠ gb416); have n6_ := am_ (by rw [hg]; exact Nat.ne_of_gt (blk_lt (bu BK415.out)) : gb416 ≠ gb415); clear BK415 HB; have BK415 := n0_; have HB := n1_; have BK416 := n2_; have GW416 := n3_; have GE416 := n4_; have NB415_416 := n5_; have NB416_415 := n6_; clear n0_ n1_ n2_ n3_ n4_ n5_ n6_; clear hb hbox hg) | ((with_reducible refine gate_dst (N := 3) rfl ?_); refine box_event ?hg (N := 3) ?hd (cs := #[.slice none 0 0]) (t := 35) ?hr ?_; (case hd => rfl); (case hg => rfl); (case hr => first | (go_simp; done) | (go_simp; rfl)); intro gb417 hg w4 hbox hb; have n0_ := am_ (blk_below (bu BK415.out) hb); have n1_ := am_ (blk_below (bu BK416.out) hb); have n2_ := am_ (below_step z90_3 hb); have n3_ := am_ (hbox); have n4_ := am_ (by rw [hg]; exact (below_size z90_3) : w.heap.size ≤ gb417); have n5_ := am_ (by rw [hg]; exact (below_size z90_3) : w.heap.size ≤ gb417); have n6_ := am_ (by rw [hg]; exact Nat.ne_of_lt (blk_lt (bu BK415.out)) : gb415 ≠ gb417); have n7_ := am_ (by rw [hg]; exact Nat.ne_of_gt (blk_lt (bu BK415.out)) : gb417 ≠ gb415); have n8_ := am_ (by rw [hg]; exact Nat.ne_of_lt (blk_lt (bu BK416.out)) : gb416 ≠ gb417); have n9_ := am_ (by rw [hg]; exact Nat.ne_of_gt (blk_lt (bu BK416.out)) : gb417 ≠ gb416); clear BK415 BK416 HB; have BK415 := n0_; have BK416 := n1_; have HB := n2_; have BK417 := n3_; have GW417 := n4_; have GE417 := n5_; have NB415_417 := n6_; have NB417_415 := n7_; have NB416_417 := n8_; have NB417_416 := n9_; clear n0_ n1_ n2_ n3_ n4_ n5_ n6_ n7_ n8_ n9_; clear hb hbox hg; have hnb5 := NB415_416.out; have hnc5 := NB416_415.out; have hnb6 := NB415_417.out; have hnc6 := NB417_415.out; have hcz7_0 : w4.cell? ⟨gb415, 0, none⟩ = some (.slice A0_0 l0_0.length c0_0) := (blk_cell BK415.out 0).trans rfl; have hfz7_0 := blk_frozen BK415.out 0))
 go_loopg [9] k (fun kq v9 w' => ∃ (x9_1 : Int) (x418000_1 : List (List (S85))) (u418000 : Value), v9 = .int .i64 x9_1 ∧ Aside0 (impl_Prog_copied.l0 kq l0_0 (l0_0.length : Int) x9_1 x418000_1 = some r) ∧ Aside0 (kq ≤ k) ∧ Aside0 (Kd.S (Kd.slice 85 k85) 82 w' w.heap.size (fun _ => True) u418000 x418000_1) ∧ Aside0 (w'.heap[gb415]? = some (.cells #[(.slice A0_0 l0_0.length c0_0)] 35 (0, 0))) ∧ Aside0 (w'.heap[gb416]? = some (.cells #[(.slice none 0 0)] 35 (0, 0))) ∧ Aside0 (w'.heap[gb417]? = some (.cells #[u418000] 35 (0, 0))) ∧ Aside0 (Below w.heap.size w w'))
 case atStart => exact ⟨(0), (([] : List (List (S85)))), (.slice none 0 0), (by first | rfl | (simp; done) | (simp [*]; done)), H', ⟨Nat.le_refl _⟩, ⟨by first | exact Kd.S_nil _ _ _ _ _ | exact Kd.N_nil _ _ _ _ _ | exact Kd.V_nil _ _ _ _ _ | exact Kd.Q_nil _ _ _ _ _ | exact Kd.R_nil _ _ _ _ _⟩, ⟨bu BK415.out⟩, ⟨bu BK416.out⟩, ⟨bu BK417.out⟩, ⟨z90_4⟩⟩
 case round =>
  clear H'
  obtain ⟨x9_1, x418000_1, u418000, rfl, HA, HK1, HO_418000, BK415, BK416, BK417, HB⟩ := hrel
  cases gk with
  | zero => exact absurd HA.out (by simp [impl_Prog_copied.l0])
  | succ k1 =>
   have H := HA.out
   clear HA
   simp only [impl_Prog_copied.l0] at H
   by_cases c8 : x9_1 < (l0_0.length : Int)
   ·rw [if_pos c8] at H
    have c8b0 : decide (x9_1 < (l0_0.length : Int)) = true := decide_eq_true c8
    clear c8
    by_cases c9 : 0 ≤ x9_1
    ·rw [if_pos c9] at H
     have c9b0 : decide (0 ≤ x9_1) = true := decide_eq_true c9
     clear c9
     by_cases c10 : x9_1 < (l0_0.length : Int)
     ·rw [if_pos c10] at H
      have c10b0 : decide (x9_1 < (l0_0.length : Int)) = true := decide_eq_true c10
      clear c10
      replace H := Option.bind_eq_some_iff.mp H
      obtain ⟨t419, A110, H⟩ := H
      replace H : (if x418000_1.length < 5864062014805 then (impl_Prog_copied.l0 k1 l0_0 (l0_0.length : Int) (wrap64 (x9_1 + 1)) (x418000_1 ++ [t419])) else (none)) = some r := H
      have A11 := am_ A110
      clear A110
      by_cases c12 : x418000_1.length < 5864062014805
      ·rw [if_pos c12] at H
       have LMc12 := am_ c12
       clear c12
       obtain ⟨y422, hy422⟩ : ∃ y_ : List (List (S85)), y_ = (x418000_1 ++ [t419]) := ⟨_, rfl⟩
       replace H : (impl_Prog_copied.l0 k1 l0_0 (l0_0.length : Int) (wrap64 (x9_1 + 1)) y422) = some r := by first | (rw [hy422]; with_reducible exact H) | (have H2_ := (Option.bind_some _ _).symm.trans H; rw [hy422]; with_reducible exact H2_) | (have H2_ := (Option.bind_some _ _).symm.trans H; with_reducible exact H2_) | with_reducible exact H | (rw [hy422]; exact H) | exact H
       have Ny422 := am_ hy422
       clear hy422
       have H' := am_ H
       clear H
       have p418 : 0 ≤ (x9_1 : Int) := of_decide_eq_true (by first | (with_reducible assumption) | assumption)
       have q418 : x9_1 < (l0_0.length : Int) := of_decide_eq_true (by first | (with_reducible assumption) | assumption)
       obtain ⟨ad418, A418_0, c418_0, e418, hx418_0, hl418_0, hi418_0⟩ := at_L7 HR0_0.out x9_1 p418 q418
       cases e418
       replace hx418_0 := (HB.out.cell (World.block_lt_of_cell? w _ hx418_0)).trans hx418_0
       have HR418_0 := am_ hi418_0
       have HC418_0 := am_ hl418_0
       clear hi418_0 hl418_0
       replace p418 := eq_true p418
       replace q418 := eq_true q418
       try go_wp2
       have n0_ := am_ (Kd.S_drew HO_418000.out)
       have n1_ := am_ (blk_drew BK415.out)
       have n2_ := am_ (blk_drew BK416.out)
       have n3_ := am_ (blk_drew BK417.out)
       have n4_ := am_ (below_drew1 HB.out)
       clear HO_418000 BK415 BK416 BK417 HB
       have HO_418000 := n0_
       have BK415 := n1_
       have BK416 := n2_
       have BK417 := n3_
       have HB := n4_
       clear n0_ n1_ n2_ n3_ n4_
       refine start_ (n := 8) (S := fun w' => w'.cell? ⟨gb417, 0, none⟩ = some (u418000)) (ds := [7]) #[false, false, false, false, false, false, false, false] (by kernel_rfl) rfl rfl ((blk_cell BK417.out 0).trans rfl) (fun hHeld => ?_); refine with_tabW impl_Prog_copied.tab5 impl_Prog_copied.bits5 (fun HT_ HW_ => ?_)
       generalize wr.drew = w13 at HO_418000 BK415 BK416 BK417 HB hHeld ⊢
       refine pure_ (i := 0) (N := some 13) (v := ?_) (a' := ?_) #[true, false, false, false, false, false, false, false] rfl rfl (any_of HT_.out (by kernel_rfl)) (fun _ _ _ h => h) (Or.inl ⟨by rfl, ?_⟩) ?_ ?_
       rotate_left
       ·intro w'
        go_simp
        with_reducible rfl
       rotate_left
       ·simp only [Act.put, List.setIfInBounds_toArray, List.set_cons_zero, List.set_cons_succ, i64_w, i32_w]
        rfl
       refine pure_ (i := 2) (N := some 15) (v := ?_) (a' := ?_) #[true, false, true, false, false, false, false, false] rfl rfl (any_of HT_.out (by kernel_rfl)) (fun _ _ _ h => h) (Or.inl ⟨by rfl, ?_⟩) ?_ ?_
       rotate_left
       ·intro w'
        go_simp
        with_reducible rfl
       rotate_left
       ·simp only [Act.put, List.setIfInBounds_toArray, List.set_cons_zero, List.set_cons_succ, i64_w, i32_w]
        rfl
       refine take_ (i := 1) (N := some 14) (v := ?_) (a' := ?_) #[true, true, true, false, false, false, false, false] rfl rfl (take_ofW HT_.out HW_.out (by kernel_rfl)) (fun _ _ _ h => h) (Or.inl ⟨by rfl, ?_⟩) hHeld ?_ ?_
       rotate_left
       ·intro w' s0
        go_simp
        with_reducible rfl
       rotate_left
       ·simp only [Act.put, List.setIfInBounds_toArray, List.set_cons_zero, List.set_cons_succ, i64_w, i32_w]
        rfl
       refine one_ (i := 3) (N := some 16) #[true, true, true, true, false, false, false, false] rfl rfl (one_of HT_.out (by kernel_rfl)) (by decide) (fun K hK => ?_)
       refine goes_ Try.func98 (by kernel_rfl) rfl #[.slice A418_0 (rd_L7 l0_0 x9_1).length c418_0] (by rfl) rfl rfl (by (try simp only [List.map_toArray, List.map_cons, List.map_nil]); first | done | rfl | (simp only [List.length_drop, List.length_take]; rfl)) ?_
       with_reducible refine (impl_Do_98.calls _ _ (rd_L7 l0_0 x9_1) t419 _ ?side1 ?side2 A11.out).mono ?_
       (case side1 => repeat (first | exact (Kd.C_below HR418_0.out HB.out) | (with_reducible refine Kd.C_alloc ?_ _) | (with_reducible refine Kd.C_drewN ?_ _) | (with_reducible refine Kd.C_drew ?_)))
       (case side2 => exact HC418_0.out)
       rintro e w14 ⟨v420, rfl, ho0, hb⟩
       refine ⟨_, rfl, ?_⟩
       have n0_ := am_ (Kd.S_elder' (su HO_418000.out) (Kd.R_base ho0) hb)
       have n1_ := am_ (Kd.R_lower ho0 (below_size z90_4))
       have n2_ := am_ (blk_below (bu BK415.out) hb)
       have n3_ := am_ (blk_below (bu BK416.out) hb)
       have n4_ := am_ (blk_below (bu BK417.out) hb)
       have n5_ := am_ (below_step z90_4 hb)
       clear HO_418000 BK415 BK416 BK417 HB
       have HO_418000 := n0_
       have HO421 := n1_
       have BK415 := n2_
       have BK416 := n3_
       have BK417 := n4_
       have HB := n5_
       clear n0_ n1_ n2_ n3_ n4_ n5_
       (try clear hb)
       (try clear hb2)
       (try clear hk)
       (try clear hi)
       (try clear ho0)
       obtain ⟨Ao16, co16, eo16⟩ := Kd.R_slice HO421.out
       (first | subst eo16 | (injection eo16 with f1_ f2_ f3_; have f4_ := f1_.symm; have f5_ := f3_.symm; clear f1_ f2_ f3_; subst f4_; subst f5_))
       refine hK.out _ _ ((blk_cell BK417.out 0).trans rfl) (fun hHeld => ?_)
       clear hK K
       refine norm_ (a' := ?_) ?_ ?_
       rotate_left
       ·show Act.put _ (some 16) _ = _
        simp only [Act.put, List.setIfInBounds_toArray, List.set_cons_zero, List.set_cons_succ, i64_w, i32_w]
        rfl
       refine one_ (i := 4) (N := some 17) #[true, true, true, true, true, false, false, false] rfl rfl (one_of HT_.out (by kernel_rfl)) (by decide) (fun K hK => ?_)
       refine value_ (w1 := ?_) (v := ?_) (by rfl) rfl ?_ ?_
       rotate_left 2
       ·go_simp
        constructor
        ·rfl
        ·rfl
       refine hK.out _ _ ((blk_cell (blk_alloc BK417.out _) 0).trans rfl) (fun hHeld => ?_)
       clear hK K
       refine norm_ (a' := ?_) ?_ ?_
       rotate_left
       ·show Act.put _ (some 17) _ = _
        simp only [Act.put, List.setIfInBounds_toArray, List.set_cons_zero, List.set_cons_succ, i64_w, i32_w]
        rfl
       refine one_ (i := 5) (N := some 18) #[true, true, true, true, true, true, false, false] rfl rfl (one_of HT_.out (by kernel_rfl)) (by decide) (fun K hK => ?_)
       refine Kd.S_append_step (Kd.slice 85 k85) (w0 := w) w.heap.size (by rfl) (.tmp 14) (.tmp 17) 33 82 (.slice none 0 0) 24 rfl Try.underlying33 info82 rfl (by decide) (by omega) u418000 x418000_1 t419 [.slice Ao16 t419.length co16] (fun _ => True) (fun k_ => some k_ = (.slice Ao16 t419.length co16 : Value).ownBlock) rfl rfl ?aP (fun k_ hk_ => ((Kd.R_mono (ok' := fun k_ => ((fun _ => True)) k_ ∧ some k_ ≠ (u418000 : Value).ownBlock) (Kd.R_apart' (HO421.out) (Kd.S_typed HO_418000.out) (by decide)) (fun k_ hk => ⟨trivial, hk.2⟩))).1 k_ hk_.symm) ?aF ?aO ?aB ?aS ?aL ?_
       (case aP => exact Kd.M_row (Kd.R_mono (Kd.R_tight rfl (Kd.R_mono (ok' := fun k_ => ((fun _ => True)) k_ ∧ some k_ ≠ (u418000 : Value).ownBlock) (Kd.R_apart' (HO421.out) (Kd.S_typed HO_418000.out) (by decide)) (fun k_ hk => ⟨trivial, hk.2⟩))) (fun _ h_ => h_)))
       (case aB => exact z90_4)
       (case aF => exact (fun _ _ => trivial))
       (case aO => exact (su (Kd.S_mono HO_418000.out (fun k_ hk => ⟨trivial, fun e_ => hk.2 e_⟩))))
       (case aS => exact (below_size z90_4))
       (case aL => have := LMc12.out; omega)
       intro v423 w15 ho hb hg hat
       rw [← Ny422.out] at ho
       have n0_ := am_ (blk_grown (bu BK415.out) hg (Kd.S_ne HO_418000.out BK415.out (by decide)))
       have n1_ := am_ (blk_grown (bu BK416.out) hg (Kd.S_ne HO_418000.out BK416.out (by decide)))
       have n2_ := am_ (blk_grown (bu BK417.out) hg (Kd.S_ne HO_418000.out BK417.out (by decide)))
       have n3_ := am_ (hb)
       have n4_ := am_ (ho)
       clear BK415 BK416 BK417 HB HO_418000 HO421
       have BK415 := n0_
       have BK416 := n1_
       have BK417 := n2_
       have HB := n3_
       have HO424 := n4_
       clear n0_ n1_ n2_ n3_ n4_ ho hb hg hat
       obtain ⟨Ao17, co17, eo17⟩ := Kd.S_slice HO424.out
       (first | subst eo17 | (injection eo17 with f1_ f2_ f3_; have f4_ := f1_.symm; have f5_ := f3_.symm; clear f1_ f2_ f3_; subst f4_; subst f5_))
       refine hK.out _ _ ((blk_cell BK417.out 0).trans rfl) (fun hHeld => ?_)
       clear hK K
       refine norm_ (a' := ?_) ?_ ?_
       rotate_left
       ·show Act.put _ (some 18) _ = _
        simp only [Act.put, List.setIfInBounds_toArray, List.set_cons_zero, List.set_cons_succ, i64_w, i32_w]
        rfl
       refine pure_ (i := 6) (N := some 19) (v := ?_) (a' := ?_) #[true, true, true, true, true, true, true, false] rfl rfl (any_of HT_.out (by kernel_rfl)) (fun _ _ _ h => h) (Or.inl ⟨by rfl, ?_⟩) ?_ ?_
       rotate_left
       ·intro w'
        go_simp
        with_reducible rfl
       rotate_left
       ·simp only [Act.put, List.setIfInBounds_toArray, List.set_cons_zero, List.set_cons_succ, i64_w, i32_w]
        rfl
       refine last_ (i := 7) (N := none) #[true, true, true, true, true, true, true, true] rfl rfl (one_of HT_.out (by kernel_rfl)) (by decide) (fun K hK => ?_)
       have hs18 : w15.cell? ⟨gb417, 0, none⟩ = some (u418000) := (blk_cell BK417.out 0).trans rfl
       have hfs18 := blk_frozen BK417.out 0
       have hns18_0 := NB415_417.out
       have hns18_1 := NB416_417.out
       have hms18_0 := NB417_415.out
       have hms18_1 := NB417_416.out
       refine skip_ (w1 := ?_) (by rfl) rfl ?_ ?_
       rotate_left
       ·go_simp
        rfl
       refine hK.out _ _ ?_
       clear hK K
       refine done_ (done_of HT_.out (by kernel_rfl)) ?_
       try go_wp2
       go_roundg k1
       case measure => have := HK1.out; omega
       case rel => exact ⟨(wrap64 (x9_1 + 1)), (y422), (.slice Ao17 y422.length co17), (by first | rfl | (simp; done) | (simp [*]; done)), H', ⟨by have := HK1.out; omega⟩, ⟨su (Kd.S_mono (Kd.S_far (p := ⟨gb417, 0, none⟩) (Kd.S_types HO424.out BK417.out (by decide)) (fun _ hk => hk.2) (.slice Ao17 y422.length co17)) (fun _ hk => trivial))⟩, ⟨by (with_reducible repeat (first | refine blk_drewN ?_ _ | refine blk_drew ?_ | refine blk_alloc ?_ _)); refine blk_far ?_ NB415_417.out _; (with_reducible repeat (first | refine blk_drewN ?_ _ | refine blk_drew ?_ | refine blk_alloc ?_ _)); exact BK415.out⟩, ⟨by (with_reducible repeat (first | refine blk_drewN ?_ _ | refine blk_drew ?_ | refine blk_alloc ?_ _)); refine blk_far ?_ NB416_417.out _; (with_reducible repeat (first | refine blk_drewN ?_ _ | refine blk_drew ?_ | refine blk_alloc ?_ _)); exact BK416.out⟩, ⟨by (with_reducible repeat (first | refine blk_drewN ?_ _ | refine blk_drew ?_ | refine blk_alloc ?_ _)); refine blk_put (cs := #[u418000]) ?_ 0 _ rfl; (with_reducible repeat (first | refine blk_drewN ?_ _ | refine blk_drew ?_ | refine blk_alloc ?_ _)); exact BK417.out⟩, ⟨z90_4⟩⟩
      ·rw [if_neg c12] at H
       exact absurd H (by simp)
     ·rw [if_neg c10] at H
      exact absurd H (by simp)
    ·rw [if_neg c9] at H
     exact absurd H (by simp)
   ·rw [if_neg c8] at H
    have c8b0 : decide (x9_1 < (l0_0.length : Int)) = false := decide_eq_false c8
    clear c8
    obtain rfl := Option.some.inj H
    have hnb19 := NB417_415.out
    have hnc19 := NB415_417.out
    have hnb20 := NB417_416.out
    have hnc20 := NB416_417.out
    have hcz21_0 : wr.cell? ⟨gb417, 0, none⟩ = some (u418000) := (blk_cell BK417.out 0).trans rfl
    have hfz21_0 := blk_frozen BK417.out 0
    obtain ⟨Ao22, co22, eo22⟩ := Kd.S_slice HO_418000.out
    subst eo22
    have hnb23 := NB416_415.out
    have hnc23 := NB415_416.out
    have hcz24_0 : wr.cell? ⟨gb416, 0, none⟩ = some (.slice none 0 0) := (blk_cell BK416.out 0).trans rfl
    have hfz24_0 := blk_frozen BK416.out 0
    go_wp2
    refine bodyPost_ret (results_cell_row rfl _ _ gb416 35 #[.slice Ao22 x418000_1.length co22] (0, 0) _ rfl (by (with_reducible repeat (first | refine blk_drewN ?_ _ | refine blk_drew ?_ | refine blk_alloc ?_ _)); refine blk_put (cs := #[.slice none 0 0]) ?_ 0 _ rfl; (with_reducible repeat (first | refine blk_drewN ?_ _ | refine blk_drew ?_ | refine blk_alloc ?_ _)); exact BK416.out) Try.underlying35 rfl (by kernel_rfl)) rfl ?_
    exact ⟨_, by first | rfl | (simp [errW_none, errW_some] <;> rfl) | (simp [*, errW_none, errW_some] <;> rfl), su (Kd.S_mono (Kd.S_far (p := ⟨gb416, 0, none⟩) (Kd.S_types HO_418000.out BK416.out (by decide)) (fun _ hk => hk.2) (.slice Ao22 x418000_1.length co22)) (fun _ hk => trivial)), z90_4⟩

end Go.Proofs.Ytefkbmhkhpekjaa.PB

namespace Go.Proofs.Ytefkbmhkhpekjaa.PB
open Go.RowKit Go.Proofs.YtefkbmhkhpekjaaW.PrintWords Go.Proofs.YtefkbmhkhpekjaaW.PrintLast Go.Proofs.YtefkbmhkhpekjaaW.PrintMore
attribute [local go_sem] max2_int min2_int max_two min_two max_three min_three max_four min_four   -- for this text's walks alone
open Go.Proofs.YtefkbmhkhpekjaaMine
set_option linter.unusedVariables false
set_option linter.unusedSimpArgs false

theorem z82_1 {p : Prop} (h : p := by injection e with e; omega) : p := h
theorem z82_2 {p : Prop} (h : p := by injection hk with hk; rw [← hk]; exact HRn.out) : p := h
theorem z82_3 {p : Prop} (h : p := by simp only [List.length_append, List.length_cons]; omega) : p := h
/-! ### impl_Prog_each: function 82 -/
def mapO {α β : Type} (F : α → Option β) : List α → Option (List β)
  | [] => some []
  | x :: xs => (F x).bind fun y => (mapO F xs).bind fun ys => some (y :: ys)
set_option maxRecDepth 100000 in
set_option maxHeartbeats 8000000 in
theorem each83 (k : Nat) (F : S85 → Option S85) (cv : Value) (A : Option Addr) (c : Nat) (l cl r : List (List S85)) (w : World) (hC : Kd.C (Kd.slice 85 k85) w A l.length l) (hc : l.length ≤ c)
    (hcl : ∀ (W : World) (d r : S85), Below w.heap.size w W → F d = some r → Calls Try.prog 83 #[.agg #[.int .i64 d.f0, .int .i64 d.f1, .int .i64 d.f2], cv] W fun e W' => e = .returned (.agg #[.int .i64 r.f0, .int .i64 r.f1, .int .i64 r.f2]) ∧ Below W.heap.size W W')
    (h1 : impl_Prog_copied.f k l = some cl) (h2 : mapO (mapO F) cl = some r) :
    Calls Try.prog 82 #[.agg #[.slice A l.length c], .func (.func 83) #[] #[cv]] w fun e w' => ∃ v_ : Value, e = .returned (.agg #[v_]) ∧ Kd.S (Kd.slice 85 k85) 82 w' w.heap.size (fun _ => True) v_ r ∧ Below w.heap.size w w' := by
  have HC := am_ hC
  have HF := am_ hcl
  have H1 := am_ h1
  have H2 := am_ h2
  clear hC hcl h1 h2
  go_enter Try.func82, Try.ntmps82
  go_wp2_with (go_at_call 90; refine park ?_)
  refine ⟨?_⟩
  have BR0 := am_ (heap_alloc_new (w.alloc (Obj.cells #[Value.slice A l.length c] 35)) (Obj.cells #[Value.slice none 0 0] 35))
  refine (impl_Prog_copied.calls k A c l cl _ (Kd.C_alloc (Kd.C_alloc HC.out _) _) hc H1.out).mono ?_
  rintro e w1 ⟨v0, rfl, hS, hb⟩
  obtain ⟨Av, cv0, rfl⟩ := Kd.S_slice hS
  have SZ : ((w.alloc (Obj.cells #[Value.slice A l.length c] 35)).alloc (Obj.cells #[Value.slice none 0 0] 35)).heap.size = w.heap.size + 2 := by rw [World.size_alloc, World.size_alloc]
  rw [World.size_alloc] at BR0
  have hcl : cl.length ≤ 9223372036854775807 := (Kd.R_reads' (Kd.S_R hS)).2.2.2.1
  have HB1 := am_ (below_then (below_alloc (below_alloc (Below.refl w.heap.size w) _) _) (below_alloc (below_alloc (Below.refl w.heap.size w) _) _).size hb)
  have BR1 := am_ (blk_below BR0.out hb)
  have hS2 := Kd.S_bound hS
  rw [SZ] at hS2
  have HS1 := am_ (Kd.S_lower (Kd.S_mono (ok' := fun k => w.heap.size + 2 ≤ k ∧ k < w1.heap.size) hS2 (fun k hk => ⟨hk.2.1, hk.2.2.1⟩)) (show w.heap.size ≤ w.heap.size + 2 by omega))
  have LT1 := am_ (show w.heap.size + 2 ≤ w1.heap.size by have := hb.size; omega)
  clear hS hS2 hb BR0 SZ
  have BP2 := am_ (heap_alloc_new w1 (Obj.cells #[Value.slice Av cl.length cv0] 35))
  have HB2 := am_ (below_alloc HB1.out (Obj.cells #[Value.slice Av cl.length cv0] 35))
  have BR2 := am_ (blk_alloc BR1.out (Obj.cells #[Value.slice Av cl.length cv0] 35))
  have HS2 := am_ (Kd.S_alloc HS1.out (Obj.cells #[Value.slice Av cl.length cv0] 35))
  clear HB1 BR1 HS1
  go_wp2_with fail
  go_loopg [15] cl.length (fun kq v15 w' => ∃ (done rest rest' : List (List S85)), v15 = .int .i64 done.length ∧ rest.length = kq ∧ Aside0 (done.length + rest.length = cl.length) ∧ Aside0 (mapO (mapO F) rest = some rest') ∧ Aside0 (r = done ++ rest') ∧
    Aside0 (Kd.S (Kd.slice 85 k85) 82 w' w.heap.size (fun k => w.heap.size + 2 ≤ k ∧ k < w1.heap.size) (.slice Av cl.length cv0) (done ++ rest)) ∧ Aside0 (Below w.heap.size w w') ∧ Aside0 (w'.heap[w.heap.size + 1]? = some (Obj.cells #[Value.slice none 0 0] 35)) ∧ Aside0 (w'.heap[w1.heap.size]? = some (Obj.cells #[Value.slice Av cl.length cv0] 35)))
  case atStart => exact ⟨[], cl, r, rfl, rfl, ⟨by simp⟩, H2, ⟨rfl⟩, HS2, HB2, BR2, BP2⟩
  case round =>
    obtain ⟨done, rest, rest', rfl, hkq, HL, HM, HR, HSr, HBr, BRr, BPr⟩ := hrel
    clear HB2 BR2 BP2 HS2 HC H1 H2
    cases rest with
    | nil =>
      have hrs' : rest' = [] := by have := HM.out; simp only [mapO, Option.some.injEq] at this; exact this.symm
      subst hrs'
      have hge : ¬ (done.length : Int) < (cl.length : Int) := by have := HL.out; simp only [List.length_nil] at this; omega
      have hcp : wr.cell? ⟨w1.heap.size, 0, none⟩ = some (.slice Av cl.length cv0) := (blk_cell BPr.out 0).trans rfl
      have hcr : wr.cell? ⟨w.heap.size + 1, 0, none⟩ = some (.slice none 0 0) := (blk_cell BRr.out 0).trans rfl
      have hfr := blk_frozen BRr.out 0
      go_wp2_with fail
      refine bodyPost_ret (results_cell_row rfl _ _ (w.heap.size + 1) 35 #[.slice Av cl.length cv0] (0, 0) _ rfl (blk_set BRr.out 0 _) Try.underlying35 rfl (by kernel_rfl)) rfl ?_
      refine ⟨_, rfl, ?_, below_set HBr.out (by omega)⟩
      have h := HSr.out
      rw [List.append_nil] at h
      have e := HR.out
      rw [List.append_nil] at e
      rw [e]
      exact Kd.S_mono (Kd.S_far (p := ⟨w.heap.size + 1, 0, none⟩) h (fun k hk => by show k ≠ w.heap.size + 1; omega) _) (fun _ _ => trivial)
    | cons row rest1 =>
      have HMM := HM.out
      clear HM
      simp only [mapO] at HMM
      obtain ⟨row', hm1, HMM⟩ := Option.bind_eq_some_iff.mp HMM
      obtain ⟨rest1', hm2, HMM⟩ := Option.bind_eq_some_iff.mp HMM
      simp only [Option.some.injEq] at HMM
      subst HMM
      have M1 := am_ hm1
      have M2 := am_ hm2
      clear hm1 hm2
      have hlt : (done.length : Int) < (cl.length : Int) := by have := HL.out; simp only [List.length_cons] at this; omega
      obtain ⟨g, cap, eA, hg0, hgl, cells, hcells⟩ := Kd.S_form HSr.out z82_3
      have hS := HSr.out
      have eL : (done ++ row :: rest1).length = cl.length := by have := HL.out; simpa using this
      rw [eL] at eA
      rw [eA] at hS
      obtain ⟨oki, cs, hlen, hM, hcc, hoki, hH⟩ := Kd.S_lend hS [] (done.length : Int) (by omega) (by omega)
      rw [show (done ++ row :: rest1).getD (done.length : Int).toNat [] = row by simp] at hM
      obtain ⟨u, rfl, hRu⟩ := hM
      obtain ⟨Au, cu, rfl⟩ := Kd.R_slice hRu
      have hcu : wr.cell? ⟨g, done.length, none⟩ = some (.slice Au row.length cu) := by have h1 := hcc 0 _ rfl; rwa [show (done.length : Int).toNat * (Kd.slice 85 k85).sz + 0 = done.length from by show (done.length : Int).toNat * 1 + 0 = _; omega] at h1
      have hfu := blk_frozen hcells done.length
      have HRu := am_ hRu
      have HHr := am_ hH
      have HOK := am_ hoki
      clear hcells hRu hH hoki hS hcc
      go_wp2_with fail
      clear hcu hfu
      have hrl : row.length ≤ 9223372036854775807 := (Kd.R_reads' HRu.out).2.2.2.1
      go_loopg [21] row.length (fun jq v21 W => ∃ (dn rs rs' : List S85), v21 = .int .i64 dn.length ∧ rs.length = jq ∧ Aside0 (dn.length + rs.length = row.length) ∧ Aside0 (mapO F rs = some rs') ∧ Aside0 (row' = dn ++ rs') ∧
        Aside0 (Kd.R k85 85 W w.heap.size oki (.slice Au row.length cu) (dn ++ rs)) ∧ Aside0 (Kd.H (Kd.slice 85 k85) 82 W w.heap.size (fun k => w.heap.size + 2 ≤ k ∧ k < w1.heap.size) (.slice (some ⟨g, 0, none⟩) cl.length cv0) (done ++ row :: rest1) done.length oki [.slice Au row.length cu]) ∧
        Aside0 (Below w.heap.size w W) ∧ Aside0 (W.heap[w.heap.size + 1]? = some (Obj.cells #[Value.slice none 0 0] 35)) ∧ Aside0 (W.heap[w1.heap.size]? = some (Obj.cells #[Value.slice (some ⟨g, 0, none⟩) cl.length cv0] 35)))
      case atStart => exact ⟨[], row, row', rfl, rfl, ⟨by simp⟩, M1, ⟨rfl⟩, HRu, HHr, HBr, BRr, BPr⟩
      case round =>
        obtain ⟨dn, rs, rs', rfl, hjq, HLi, HMi, HRi, HRw, HHw, HBw, BRw, BPw⟩ := hrel
        clear HRu HHr HBr BRr BPr M1 HSr
        cases rs with
        | nil =>
          have hrs' : rs' = [] := by have := HMi.out; simp only [mapO, Option.some.injEq] at this; exact this.symm
          subst hrs'
          have hge : ¬ (dn.length : Int) < (row.length : Int) := by have := HLi.out; simp only [List.length_nil] at this; omega
          have HSn := am_ (show Kd.S (Kd.slice 85 k85) 82 wr w.heap.size (fun k => w.heap.size + 2 ≤ k ∧ k < w1.heap.size) (.slice (some ⟨g, 0, none⟩) cl.length cv0) (done ++ [row'] ++ rest1) from by
            have h := Kd.H_back HHw.out (Kd.M_row HRw.out) (fun k hk => hk)
            rw [show (done ++ row :: rest1).set (done.length : Int).toNat (dn ++ []) = done ++ [row'] ++ rest1 from by rw [Int.toNat_natCast, List.set_append_right _ _ (Nat.le_refl _), HRi.out]; simp] at h
            exact h)
          clear HRw HHw
          go_wp2_with fail
          go_roundg rest1.length
          case measure => simp only [List.length_cons] at hkq; omega
          case rel => exact ⟨done ++ [row'], rest1, rest1', by simp, rfl, ⟨by have := HL.out; simp only [List.length_cons] at this; simp only [List.length_append, List.length_singleton]; omega⟩, M2, ⟨by rw [HR.out]; simp⟩, HSn, HBw, BRw, BPw⟩
        | cons d rs1 =>
          have HMM := HMi.out
          clear HMi
          simp only [mapO] at HMM
          obtain ⟨d', hm1, HMM⟩ := Option.bind_eq_some_iff.mp HMM
          obtain ⟨rs1', hm3, HMM⟩ := Option.bind_eq_some_iff.mp HMM
          simp only [Option.some.injEq] at HMM
          subst HMM
          have N1 := am_ hm1
          have N2 := am_ hm3
          clear hm1 hm3
          have hlti : (dn.length : Int) < (row.length : Int) := by have := HLi.out; simp only [List.length_cons] at this; omega
          obtain ⟨gi, capi, eAi, hgi0, hgil, cellsi, hcellsi⟩ := Kd.R_form HRw.out z82_3
          have hR := HRw.out
          have eLi : (dn ++ d :: rs1).length = row.length := by have := HLi.out; simpa using this
          rw [eLi] at eAi
          rw [eAi] at hR
          obtain ⟨ce, hce, hMe, hcce, hfre⟩ := Kd.R_elem hR z85 (dn.length : Int) (by omega) (by omega)
          rw [show (dn ++ d :: rs1).getD (dn.length : Int).toNat z85 = d by simp] at hMe
          obtain rfl := k85_openM hMe
          have hx0 := hcce 0 _ rfl
          have hx1 := hcce 1 _ rfl
          have hx2 := hcce 2 _ rfl
          rw [show (dn.length : Int).toNat * (k85).sz + 0 = dn.length * 3 from by show (dn.length : Int).toNat * 3 + 0 = _; omega] at hx0
          rw [show (dn.length : Int).toNat * (k85).sz + 1 = dn.length * 3 + 1 from by show (dn.length : Int).toNat * 3 + 1 = _; omega] at hx1
          rw [show (dn.length : Int).toNat * (k85).sz + 2 = dn.length * 3 + 2 from by show (dn.length : Int).toNat * 3 + 2 = _; omega] at hx2
          have HRo := am_ hR
          clear hMe hR hcce hfre
          go_wp2_with (go_at_call 83; refine park ?_)
          clear hx0 hx1 hx2
          refine ⟨?_⟩
          refine (HF.out _ d d' (below_alloc HBw.out _) N1.out).mono ?_
          rintro e w2 ⟨rfl, hb⟩
          have HB3 := am_ (below_then (below_alloc HBw.out (Obj.cells #[Value.int IntKind.i64 d.f0, Value.int IntKind.i64 d.f1, Value.int IntKind.i64 d.f2] 85)) (below_alloc HBw.out (Obj.cells #[Value.int IntKind.i64 d.f0, Value.int IntKind.i64 d.f1, Value.int IntKind.i64 d.f2] 85)).size hb)
          have hR3 := Kd.R_below (Kd.R_alloc HRo.out (Obj.cells #[Value.int IntKind.i64 d.f0, Value.int IntKind.i64 d.f1, Value.int IntKind.i64 d.f2] 85)) hb
          have HH3 := am_ (Kd.H_below (Kd.H_alloc HHw.out (Obj.cells #[Value.int IntKind.i64 d.f0, Value.int IntKind.i64 d.f1, Value.int IntKind.i64 d.f2] 85)) hb)
          have BR3 := am_ (blk_below (blk_alloc BRw.out (Obj.cells #[Value.int IntKind.i64 d.f0, Value.int IntKind.i64 d.f1, Value.int IntKind.i64 d.f2] 85)) hb)
          have BP3 := am_ (blk_below (blk_alloc BPw.out (Obj.cells #[Value.int IntKind.i64 d.f0, Value.int IntKind.i64 d.f1, Value.int IntKind.i64 d.f2] 85)) hb)
          have HRn := am_ (HRw.out.1 gi rfl)
          clear HBw HHw BRw BPw HRo HRw hb
          obtain ⟨ce, hce, hMe, hcce, hfre⟩ := Kd.R_elem hR3 z85 (dn.length : Int) (by omega) (by omega)
          rw [show (dn ++ d :: rs1).getD (dn.length : Int).toNat z85 = d by simp] at hMe
          obtain rfl := k85_openM hMe
          have HP := am_ (Kd.R_seg hR3 (dn.length : Int) (by omega) (by omega) (seg := [.int .i64 d'.f0, .int .i64 d'.f1, .int .i64 d'.f2]) (j := 0) hce hcce (show 3 ≤ 3 from by decide) (x' := d') (k85_mkM _ _ _ d') (fun _ hk => hk))
          have hx0 := hcce 0 _ rfl
          have hx1 := hcce 1 _ rfl
          have hx2 := hcce 2 _ rfl
          have hf0 := hfre 0
          have hf1 := hfre 1
          have hf2 := hfre 2
          have e0 : (dn.length : Int).toNat * (k85).sz + 0 = dn.length * 3 := by show (dn.length : Int).toNat * 3 + 0 = _; omega
          have e1 : (dn.length : Int).toNat * (k85).sz + 1 = dn.length * 3 + 1 := by show (dn.length : Int).toNat * 3 + 1 = _; omega
          have e2 : (dn.length : Int).toNat * (k85).sz + 2 = dn.length * 3 + 2 := by show (dn.length : Int).toNat * 3 + 2 = _; omega
          rw [e0] at hx0 hf0
          rw [e1] at hx1 hf1
          rw [e2] at hx2 hf2
          clear e0 e1 e2 hMe hcce hfre hR3
          have HP' := am_ (show Kd.R k85 85 (((w2.setCell ⟨gi, dn.length * 3, none⟩ (.int .i64 d'.f0)).setCell ⟨gi, dn.length * 3 + 1, none⟩ (.int .i64 d'.f1)).setCell ⟨gi, dn.length * 3 + 2, none⟩ (.int .i64 d'.f2)) w.heap.size oki (.slice (some ⟨gi, 0, none⟩) row.length cu) (dn ++ [d'] ++ rs1) ∧ w2.grownBy (((w2.setCell ⟨gi, dn.length * 3, none⟩ (.int .i64 d'.f0)).setCell ⟨gi, dn.length * 3 + 1, none⟩ (.int .i64 d'.f1)).setCell ⟨gi, dn.length * 3 + 2, none⟩ (.int .i64 d'.f2)) (some gi) from by
            have h := HP.out
            rw [show (dn.length : Int).toNat * (k85).sz + 0 = dn.length * 3 from by show (dn.length : Int).toNat * 3 + 0 = _; omega, show (dn ++ d :: rs1).set (dn.length : Int).toNat d' = dn ++ [d'] ++ rs1 from by rw [Int.toNat_natCast, List.set_append_right _ _ (Nat.le_refl _)]; simp] at h
            exact h)
          clear HP
          go_wp2_with fail
          clear hx0 hx1 hx2 hf0 hf1 hf2
          go_roundg rs1.length
          case measure => simp only [List.length_cons] at hjq; omega
          case rel =>
            have hOKn := (HOK.out _ HRn.out).1
            exact ⟨dn ++ [d'], rs1, rs1', by simp, rfl, ⟨by have := HLi.out; simp only [List.length_cons] at this; simp only [List.length_append, List.length_singleton]; omega⟩, N2, ⟨by rw [HRi.out]; simp⟩, ⟨HP'.out.1⟩, ⟨Kd.H_grown HH3.out HP'.out.2 (fun k hk => z82_2)⟩,
              ⟨HB3.out.grown HP'.out.2 HB3.out.size (fun k hk => by injection hk with hk; omega)⟩, ⟨blk_grown BR3.out HP'.out.2 (fun e => z82_1)⟩, ⟨blk_grown BP3.out HP'.out.2 (fun e => z82_1)⟩⟩
set_option maxRecDepth 100000 in
set_option maxHeartbeats 8000000 in
theorem each99 (k : Nat) (F : S85 → Option S85) (cv : Value) (A : Option Addr) (c : Nat) (l cl r : List (List S85)) (w : World) (hC : Kd.C (Kd.slice 85 k85) w A l.length l) (hc : l.length ≤ c)
    (hcl : ∀ (W : World) (d r : S85), Below w.heap.size w W → F d = some r → Calls Try.prog 99 #[.agg #[.int .i64 d.f0, .int .i64 d.f1, .int .i64 d.f2], cv] W fun e W' => e = .returned (.agg #[.int .i64 r.f0, .int .i64 r.f1, .int .i64 r.f2]) ∧ Below W.heap.size W W')
    (h1 : impl_Prog_copied.f k l = some cl) (h2 : mapO (mapO F) cl = some r) :
    Calls Try.prog 82 #[.agg #[.slice A l.length c], .func (.func 99) #[] #[cv]] w fun e w' => ∃ v_ : Value, e = .returned (.agg #[v_]) ∧ Kd.S (Kd.slice 85 k85) 82 w' w.heap.size (fun _ => True) v_ r ∧ Below w.heap.size w w' := by
  have HC := am_ hC
  have HF := am_ hcl
  have H1 := am_ h1
  have H2 := am_ h2
  clear hC hcl h1 h2
  go_enter Try.func82, Try.ntmps82
  go_wp2_with (go_at_call 90; refine park ?_)
  refine ⟨?_⟩
  have BR0 := am_ (heap_alloc_new (w.alloc (Obj.cells #[Value.slice A l.length c] 35)) (Obj.cells #[Value.slice none 0 0] 35))
  refine (impl_Prog_copied.calls k A c l cl _ (Kd.C_alloc (Kd.C_alloc HC.out _) _) hc H1.out).mono ?_
  rintro e w1 ⟨v0, rfl, hS, hb⟩
  obtain ⟨Av, cv0, rfl⟩ := Kd.S_slice hS
  have SZ : ((w.alloc (Obj.cells #[Value.slice A l.length c] 35)).alloc (Obj.cells #[Value.slice none 0 0] 35)).heap.size = w.heap.size + 2 := by rw [World.size_alloc, World.size_alloc]
  rw [World.size_alloc] at BR0
  have hcl : cl.length ≤ 9223372036854775807 := (Kd.R_reads' (Kd.S_R hS)).2.2.2.1
  have HB1 := am_ (below_then (below_alloc (below_alloc (Below.refl w.heap.size w) _) _) (below_alloc (below_alloc (Below.refl w.heap.size w) _) _).size hb)
  have BR1 := am_ (blk_below BR0.out hb)
  have hS2 := Kd.S_bound hS
  rw [SZ] at hS2
  have HS1 := am_ (Kd.S_lower (Kd.S_mono (ok' := fun k => w.heap.size + 2 ≤ k ∧ k < w1.heap.size) hS2 (fun k hk => ⟨hk.2.1, hk.2.2.1⟩)) (show w.heap.size ≤ w.heap.size + 2 by omega))
  have LT1 := am_ (show w.heap.size + 2 ≤ w1.heap.size by have := hb.size; omega)
  clear hS hS2 hb BR0 SZ
  have BP2 := am_ (heap_alloc_new w1 (Obj.cells #[Value.slice Av cl.length cv0] 35))
  have HB2 := am_ (below_alloc HB1.out (Obj.cells #[Value.slice Av cl.length cv0] 35))
  have BR2 := am_ (blk_alloc BR1.out (Obj.cells #[Value.slice Av cl.length cv0] 35))
  have HS2 := am_ (Kd.S_alloc HS1.out (Obj.cells #[Value.slice Av cl.length cv0] 35))
  clear HB1 BR1 HS1
  go_wp2_with fail
  go_loopg [15] cl.length (fun kq v15 w' => ∃ (done rest rest' : List (List S85)), v15 = .int .i64 done.length ∧ rest.length = kq ∧ Aside0 (done.length + rest.length = cl.length) ∧ Aside0 (mapO (mapO F) rest = some rest') ∧ Aside0 (r = done ++ rest') ∧
    Aside0 (Kd.S (Kd.slice 85 k85) 82 w' w.heap.size (fun k => w.heap.size + 2 ≤ k ∧ k < w1.heap.size) (.slice Av cl.length cv0) (done ++ rest)) ∧ Aside0 (Below w.heap.size w w') ∧ Aside0 (w'.heap[w.heap.size + 1]? = some (Obj.cells #[Value.slice none 0 0] 35)) ∧ Aside0 (w'.heap[w1.heap.size]? = some (Obj.cells #[Value.slice Av cl.length cv0] 35)))
  case atStart => exact ⟨[], cl, r, rfl, rfl, ⟨by simp⟩, H2, ⟨rfl⟩, HS2, HB2, BR2, BP2⟩
  case round =>
    obtain ⟨done, rest, rest', rfl, hkq, HL, HM, HR, HSr, HBr, BRr, BPr⟩ := hrel
    clear HB2 BR2 BP2 HS2 HC H1 H2
    cases rest with
    | nil =>
      have hrs' : rest' = [] := by have := HM.out; simp only [mapO, Option.some.injEq] at this; exact this.symm
      subst hrs'
      have hge : ¬ (done.length : Int) < (cl.length : Int) := by have := HL.out; simp only [List.length_nil] at this; omega
      have hcp : wr.cell? ⟨w1.heap.size, 0, none⟩ = some (.slice Av cl.length cv0) := (blk_cell BPr.out 0).trans rfl
      have hcr : wr.cell? ⟨w.heap.size + 1, 0, none⟩ = some (.slice none 0 0) := (blk_cell BRr.out 0).trans rfl
      have hfr := blk_frozen BRr.out 0
      go_wp2_with fail
      refine bodyPost_ret (results_cell_row rfl _ _ (w.heap.size + 1) 35 #[.slice Av cl.length cv0] (0, 0) _ rfl (blk_set BRr.out 0 _) Try.underlying35 rfl (by kernel_rfl)) rfl ?_
      refine ⟨_, rfl, ?_, below_set HBr.out (by omega)⟩
      have h := HSr.out
      rw [List.append_nil] at h
      have e := HR.out
      rw [List.append_nil] at e
      rw [e]
      exact Kd.S_mono (Kd.S_far (p := ⟨w.heap.size + 1, 0, none⟩) h (fun k hk => by show k ≠ w.heap.size + 1; omega) _) (fun _ _ => trivial)
    | cons row rest1 =>
      have HMM := HM.out
      clear HM
      simp only [mapO] at HMM
      obtain ⟨row', hm1, HMM⟩ := Option.bind_eq_some_iff.mp HMM
      obtain ⟨rest1', hm2, HMM⟩ := Option.bind_eq_some_iff.mp HMM
      simp only [Option.some.injEq] at HMM
      subst HMM
      have M1 := am_ hm1
      have M2 := am_ hm2
      clear hm1 hm2
      have hlt : (done.length : Int) < (cl.length : Int) := by have := HL.out; simp only [List.length_cons] at this; omega
      obtain ⟨g, cap, eA, hg0, hgl, cells, hcells⟩ := Kd.S_form HSr.out z82_3
      have hS := HSr.out
      have eL : (done ++ row :: rest1).length = cl.length := by have := HL.out; simpa using this
      rw [eL] at eA
      rw [eA] at hS
      obtain ⟨oki, cs, hlen, hM, hcc, hoki, hH⟩ := Kd.S_lend hS [] (done.length : Int) (by omega) (by omega)
      rw [show (done ++ row :: rest1).getD (done.length : Int).toNat [] = row by simp] at hM
      obtain ⟨u, rfl, hRu⟩ := hM
      obtain ⟨Au, cu, rfl⟩ := Kd.R_slice hRu
      have hcu : wr.cell? ⟨g, done.length, none⟩ = some (.slice Au row.length cu) := by have h1 := hcc 0 _ rfl; rwa [show (done.length : Int).toNat * (Kd.slice 85 k85).sz + 0 = done.length from by show (done.length : Int).toNat * 1 + 0 = _; omega] at h1
      have hfu := blk_frozen hcells done.length
      have HRu := am_ hRu
      have HHr := am_ hH
      have HOK := am_ hoki
      clear hcells hRu hH hoki hS hcc
      go_wp2_with fail
      clear hcu hfu
      have hrl : row.length ≤ 9223372036854775807 := (Kd.R_reads' HRu.out).2.2.2.1
      go_loopg [21] row.length (fun jq v21 W => ∃ (dn rs rs' : List S85), v21 = .int .i64 dn.length ∧ rs.length = jq ∧ Aside0 (dn.length + rs.length = row.length) ∧ Aside0 (mapO F rs = some rs') ∧ Aside0 (row' = dn ++ rs') ∧
        Aside0 (Kd.R k85 85 W w.heap.size oki (.slice Au row.length cu) (dn ++ rs)) ∧ Aside0 (Kd.H (Kd.slice 85 k85) 82 W w.heap.size (fun k => w.heap.size + 2 ≤ k ∧ k < w1.heap.size) (.slice (some ⟨g, 0, none⟩) cl.length cv0) (done ++ row :: rest1) done.length oki [.slice Au row.length cu]) ∧
        Aside0 (Below w.heap.size w W) ∧ Aside0 (W.heap[w.heap.size + 1]? = some (Obj.cells #[Value.slice none 0 0] 35)) ∧ Aside0 (W.heap[w1.heap.size]? = some (Obj.cells #[Value.slice (some ⟨g, 0, none⟩) cl.length cv0] 35)))
      case atStart => exact ⟨[], row, row', rfl, rfl, ⟨by simp⟩, M1, ⟨rfl⟩, HRu, HHr, HBr, BRr, BPr⟩
      case round =>
        obtain ⟨dn, rs, rs', rfl, hjq, HLi, HMi, HRi, HRw, HHw, HBw, BRw, BPw⟩ := hrel
        clear HRu HHr HBr BRr BPr M1 HSr
        cases rs with
        | nil =>
          have hrs' : rs' = [] := by have := HMi.out; simp only [mapO, Option.some.injEq] at this; exact this.symm
          subst hrs'
          have hge : ¬ (dn.length : Int) < (row.length : Int) := by have := HLi.out; simp only [List.length_nil] at this; omega
          have HSn := am_ (show Kd.S (Kd.slice 85 k85) 82 wr w.heap.size (fun k => w.heap.size + 2 ≤ k ∧ k < w1.heap.size) (.slice (some ⟨g, 0, none⟩) cl.length cv0) (done ++ [row'] ++ rest1) from by
            have h := Kd.H_back HHw.out (Kd.M_row HRw.out) (fun k hk => hk)
            rw [show (done ++ row :: rest1).set (done.length : Int).toNat (dn ++ []) = done ++ [row'] ++ rest1 from by rw [Int.toNat_natCast, List.set_append_right _ _ (Nat.le_refl _), HRi.out]; simp] at h
            exact h)
          clear HRw HHw
          go_wp2_with fail
          go_roundg rest1.length
          case measure => simp only [List.length_cons] at hkq; omega
          case rel => exact ⟨done ++ [row'], rest1, rest1', by simp, rfl, ⟨by have := HL.out; simp only [List.length_cons] at this; simp only [List.length_append, List.length_singleton]; omega⟩, M2, ⟨by rw [HR.out]; simp⟩, HSn, HBw, BRw, BPw⟩
        | cons d rs1 =>
          have HMM := HMi.out
          clear HMi
          simp only [mapO] at HMM
          obtain ⟨d', hm1, HMM⟩ := Option.bind_eq_some_iff.mp HMM
          obtain ⟨rs1', hm3, HMM⟩ := Option.bind_eq_some_iff.mp HMM
          simp only [Option.some.injEq] at HMM
          subst HMM
          have N1 := am_ hm1
          have N2 := am_ hm3
          clear hm1 hm3
          have hlti : (dn.length : Int) < (row.length : Int) := by have := HLi.out; simp only [List.length_cons] at this; omega
          obtain ⟨gi, capi, eAi, hgi0, hgil, cellsi, hcellsi⟩ := Kd.R_form HRw.out z82_3
          have hR := HRw.out
          have eLi : (dn ++ d :: rs1).length = row.length := by have := HLi.out; simpa using this
          rw [eLi] at eAi
          rw [eAi] at hR
          obtain ⟨ce, hce, hMe, hcce, hfre⟩ := Kd.R_elem hR z85 (dn.length : Int) (by omega) (by omega)
          rw [show (dn ++ d :: rs1).getD (dn.length : Int).toNat z85 = d by simp] at hMe
          obtain rfl := k85_openM hMe
          have hx0 := hcce 0 _ rfl
          have hx1 := hcce 1 _ rfl
          have hx2 := hcce 2 _ rfl
          rw [show (dn.length : Int).toNat * (k85).sz + 0 = dn.length * 3 from by show (dn.length : Int).toNat * 3 + 0 = _; omega] at hx0
          rw [show (dn.length : Int).toNat * (k85).sz + 1 = dn.length * 3 + 1 from by show (dn.length : Int).toNat * 3 + 1 = _; omega] at hx1
          rw [show (dn.length : Int).toNat * (k85).sz + 2 = dn.length * 3 + 2 from by show (dn.length : Int).toNat * 3 + 2 = _; omega] at hx2
          have HRo := am_ hR
          clear hMe hR hcce hfre
          go_wp2_with (go_at_call 99; refine park ?_)
          clear hx0 hx1 hx2
          refine ⟨?_⟩
          refine (HF.out _ d d' (below_alloc HBw.out _) N1.out).mono ?_
          rintro e w2 ⟨rfl, hb⟩
          have HB3 := am_ (below_then (below_alloc HBw.out (Obj.cells #[Value.int IntKind.i64 d.f0, Value.int IntKind.i64 d.f1, Value.int IntKind.i64 d.f2] 85)) (below_alloc HBw.out (Obj.cells #[Value.int IntKind.i64 d.f0, Value.int IntKind.i64 d.f1, Value.int IntKind.i64 d.f2] 85)).size hb)
          have hR3 := Kd.R_below (Kd.R_alloc HRo.out (Obj.cells #[Value.int IntKind.i64 d.f0, Value.int IntKind.i64 d.f1, Value.int IntKind.i64 d.f2] 85)) hb
          have HH3 := am_ (Kd.H_below (Kd.H_alloc HHw.out (Obj.cells #[Value.int IntKind.i64 d.f0, Value.int IntKind.i64 d.f1, Value.int IntKind.i64 d.f2] 85)) hb)
          have BR3 := am_ (blk_below (blk_alloc BRw.out (Obj.cells #[Value.int IntKind.i64 d.f0, Value.int IntKind.i64 d.f1, Value.int IntKind.i64 d.f2] 85)) hb)
          have BP3 := am_ (blk_below (blk_alloc BPw.out (Obj.cells #[Value.int IntKind.i64 d.f0, Value.int IntKind.i64 d.f1, Value.int IntKind.i64 d.f2] 85)) hb)
          have HRn := am_ (HRw.out.1 gi rfl)
          clear HBw HHw BRw BPw HRo HRw hb
          obtain ⟨ce, hce, hMe, hcce, hfre⟩ := Kd.R_elem hR3 z85 (dn.length : Int) (by omega) (by omega)
          rw [show (dn ++ d :: rs1).getD (dn.length : Int).toNat z85 = d by simp] at hMe
          obtain rfl := k85_openM hMe
          have HP := am_ (Kd.R_seg hR3 (dn.length : Int) (by omega) (by omega) (seg := [.int .i64 d'.f0, .int .i64 d'.f1, .int .i64 d'.f2]) (j := 0) hce hcce (show 3 ≤ 3 from by decide) (x' := d') (k85_mkM _ _ _ d') (fun _ hk => hk))
          have hx0 := hcce 0 _ rfl
          have hx1 := hcce 1 _ rfl
          have hx2 := hcce 2 _ rfl
          have hf0 := hfre 0
          have hf1 := hfre 1
          have hf2 := hfre 2
          have e0 : (dn.length : Int).toNat * (k85).sz + 0 = dn.length * 3 := by show (dn.length : Int).toNat * 3 + 0 = _; omega
          have e1 : (dn.length : Int).toNat * (k85).sz + 1 = dn.length * 3 + 1 := by show (dn.length : Int).toNat * 3 + 1 = _; omega
          have e2 : (dn.length : Int).toNat * (k85).sz + 2 = dn.length * 3 + 2 := by show (dn.length : Int).toNat * 3 + 2 = _; omega
          rw [e0] at hx0 hf0
          rw [e1] at hx1 hf1
          rw [e2] at hx2 hf2
          clear e0 e1 e2 hMe hcce hfre hR3
          have HP' := am_ (show Kd.R k85 85 (((w2.setCell ⟨gi, dn.length * 3, none⟩ (.int .i64 d'.f0)).setCell ⟨gi, dn.length * 3 + 1, none⟩ (.int .i64 d'.f1)).setCell ⟨gi, dn.length * 3 + 2, none⟩ (.int .i64 d'.f2)) w.heap.size oki (.slice (some ⟨gi, 0, none⟩) row.length cu) (dn ++ [d'] ++ rs1) ∧ w2.grownBy (((w2.setCell ⟨gi, dn.length * 3, none⟩ (.int .i64 d'.f0)).setCell ⟨gi, dn.length * 3 + 1, none⟩ (.int .i64 d'.f1)).setCell ⟨gi, dn.length * 3 + 2, none⟩ (.int .i64 d'.f2)) (some gi) from by
            have h := HP.out
            rw [show (dn.length : Int).toNat * (k85).sz + 0 = dn.length * 3 from by show (dn.length : Int).toNat * 3 + 0 = _; omega, show (dn ++ d :: rs1).set (dn.length : Int).toNat d' = dn ++ [d'] ++ rs1 from by rw [Int.toNat_natCast, List.set_append_right _ _ (Nat.le_refl _)]; simp] at h
            exact h)
          clear HP
          go_wp2_with fail
          clear hx0 hx1 hx2 hf0 hf1 hf2
          go_roundg rs1.length
          case measure => simp only [List.length_cons] at hjq; omega
          case rel =>
            have hOKn := (HOK.out _ HRn.out).1
            exact ⟨dn ++ [d'], rs1, rs1', by simp, rfl, ⟨by have := HLi.out; simp only [List.length_cons] at this; simp only [List.length_append, List.length_singleton]; omega⟩, N2, ⟨by rw [HRi.out]; simp⟩, ⟨HP'.out.1⟩, ⟨Kd.H_grown HH3.out HP'.out.2 (fun k hk => z82_2)⟩,
              ⟨HB3.out.grown HP'.out.2 HB3.out.size (fun k hk => by injection hk with hk; omega)⟩, ⟨blk_grown BR3.out HP'.out.2 (fun e => z82_1)⟩, ⟨blk_grown BP3.out HP'.out.2 (fun e => z82_1)⟩⟩
set_option maxRecDepth 100000 in
set_option maxHeartbeats 8000000 in
theorem each102 (k : Nat) (F : S85 → Option S85) (cv : Value) (A : Option Addr) (c : Nat) (l cl r : List (List S85)) (w : World) (hC : Kd.C (Kd.slice 85 k85) w A l.length l) (hc : l.length ≤ c)
    (hcl : ∀ (W : World) (d r : S85), Below w.heap.size w W → F d = some r → Calls Try.prog 102 #[.agg #[.int .i64 d.f0, .int .i64 d.f1, .int .i64 d.f2], cv] W fun e W' => e = .returned (.agg #[.int .i64 r.f0, .int .i64 r.f1, .int .i64 r.f2]) ∧ Below W.heap.size W W')
    (h1 : impl_Prog_copied.f k l = some cl) (h2 : mapO (mapO F) cl = some r) :
    Calls Try.prog 82 #[.agg #[.slice A l.length c], .func (.func 102) #[] #[cv]] w fun e w' => ∃ v_ : Value, e = .returned (.agg #[v_]) ∧ Kd.S (Kd.slice 85 k85) 82 w' w.heap.size (fun _ => True) v_ r ∧ Below w.heap.size w w' := by
  have HC := am_ hC
  have HF := am_ hcl
  have H1 := am_ h1
  have H2 := am_ h2
  clear hC hcl h1 h2
  go_enter Try.func82, Try.ntmps82
  go_wp2_with (go_at_call 90; refine park ?_)
  refine ⟨?_⟩
  have BR0 := am_ (heap_alloc_new (w.alloc (Obj.cells #[Value.slice A l.length c] 35)) (Obj.cells #[Value.slice none 0 0] 35))
  refine (impl_Prog_copied.calls k A c l cl _ (Kd.C_alloc (Kd.C_alloc HC.out _) _) hc H1.out).mono ?_
  rintro e w1 ⟨v0, rfl, hS, hb⟩
  obtain ⟨Av, cv0, rfl⟩ := Kd.S_slice hS
  have SZ : ((w.alloc (Obj.cells #[Value.slice A l.length c] 35)).alloc (Obj.cells #[Value.slice none 0 0] 35)).heap.size = w.heap.size + 2 := by rw [World.size_alloc, World.size_alloc]
  rw [World.size_alloc] at BR0
  have hcl : cl.length ≤ 9223372036854775807 := (Kd.R_reads' (Kd.S_R hS)).2.2.2.1
  have HB1 := am_ (below_then (below_alloc (below_alloc (Below.refl w.heap.size w) _) _) (below_alloc (below_alloc (Below.refl w.heap.size w) _) _).size hb)
  have BR1 := am_ (blk_below BR0.out hb)
  have hS2 := Kd.S_bound hS
  rw [SZ] at hS2
  have HS1 := am_ (Kd.S_lower (Kd.S_mono (ok' := fun k => w.heap.size + 2 ≤ k ∧ k < w1.heap.size) hS2 (fun k hk => ⟨hk.2.1, hk.2.2.1⟩)) (show w.heap.size ≤ w.heap.size + 2 by omega))
  have LT1 := am_ (show w.heap.size + 2 ≤ w1.heap.size by have := hb.size; omega)
  clear hS hS2 hb BR0 SZ
  have BP2 := am_ (heap_alloc_new w1 (Obj.cells #[Value.slice Av cl.length cv0] 35))
  have HB2 := am_ (below_alloc HB1.out (Obj.cells #[Value.slice Av cl.length cv0] 35))
  have BR2 := am_ (blk_alloc BR1.out (Obj.cells #[Value.slice Av cl.length cv0] 35))
  have HS2 := am_ (Kd.S_alloc HS1.out (Obj.cells #[Value.slice Av cl.length cv0] 35))
  clear HB1 BR1 HS1
  go_wp2_with fail
  go_loopg [15] cl.length (fun kq v15 w' => ∃ (done rest rest' : List (List S85)), v15 = .int .i64 done.length ∧ rest.length = kq ∧ Aside0 (done.length + rest.length = cl.length) ∧ Aside0 (mapO (mapO F) rest = some rest') ∧ Aside0 (r = done ++ rest') ∧
    Aside0 (Kd.S (Kd.slice 85 k85) 82 w' w.heap.size (fun k => w.heap.size + 2 ≤ k ∧ k < w1.heap.size) (.slice Av cl.length cv0) (done ++ rest)) ∧ Aside0 (Below w.heap.size w w') ∧ Aside0 (w'.heap[w.heap.size + 1]? = some (Obj.cells #[Value.slice none 0 0] 35)) ∧ Aside0 (w'.heap[w1.heap.size]? = some (Obj.cells #[Value.slice Av cl.length cv0] 35)))
  case atStart => exact ⟨[], cl, r, rfl, rfl, ⟨by simp⟩, H2, ⟨rfl⟩, HS2, HB2, BR2, BP2⟩
  case round =>
    obtain ⟨done, rest, rest', rfl, hkq, HL, HM, HR, HSr, HBr, BRr, BPr⟩ := hrel
    clear HB2 BR2 BP2 HS2 HC H1 H2
    cases rest with
    | nil =>
      have hrs' : rest' = [] := by have := HM.out; simp only [mapO, Option.some.injEq] at this; exact this.symm
      subst hrs'
      have hge : ¬ (done.length : Int) < (cl.length : Int) := by have := HL.out; simp only [List.length_nil] at this; omega
      have hcp : wr.cell? ⟨w1.heap.size, 0, none⟩ = some (.slice Av cl.length cv0) := (blk_cell BPr.out 0).trans rfl
      have hcr : wr.cell? ⟨w.heap.size + 1, 0, none⟩ = some (.slice none 0 0) := (blk_cell BRr.out 0).trans rfl
      have hfr := blk_frozen BRr.out 0
      go_wp2_with fail
      refine bodyPost_ret (results_cell_row rfl _ _ (w.heap.size + 1) 35 #[.slice Av cl.length cv0] (0, 0) _ rfl (blk_set BRr.out 0 _) Try.underlying35 rfl (by kernel_rfl)) rfl ?_
      refine ⟨_, rfl, ?_, below_set HBr.out (by omega)⟩
      have h := HSr.out
      rw [List.append_nil] at h
      have e := HR.out
      rw [List.append_nil] at e
      rw [e]
      exact Kd.S_mono (Kd.S_far (p := ⟨w.heap.size + 1, 0, none⟩) h (fun k hk => by show k ≠ w.heap.size + 1; omega) _) (fun _ _ => trivial)
    | cons row rest1 =>
      have HMM := HM.out
      clear HM
      simp only [mapO] at HMM
      obtain ⟨row', hm1, HMM⟩ := Option.bind_eq_some_iff.mp HMM
      obtain ⟨rest1', hm2, HMM⟩ := Option.bind_eq_some_iff.mp HMM
      simp only [Option.some.injEq] at HMM
      subst HMM
      have M1 := am_ hm1
      have M2 := am_ hm2
      clear hm1 hm2
      have hlt : (done.length : Int) < (cl.length : Int) := by have := HL.out; simp only [List.length_cons] at this; omega
      obtain ⟨g, cap, eA, hg0, hgl, cells, hcells⟩ := Kd.S_form HSr.out z82_3
      have hS := HSr.out
      have eL : (done ++ row :: rest1).length = cl.length := by have := HL.out; simpa using this
      rw [eL] at eA
      rw [eA] at hS
      obtain ⟨oki, cs, hlen, hM, hcc, hoki, hH⟩ := Kd.S_lend hS [] (done.length : Int) (by omega) (by omega)
      rw [show (done ++ row :: rest1).getD (done.length : Int).toNat [] = row by simp] at hM
      obtain ⟨u, rfl, hRu⟩ := hM
      obtain ⟨Au, cu, rfl⟩ := Kd.R_slice hRu
      have hcu : wr.cell? ⟨g, done.length, none⟩ = some (.slice Au row.length cu) := by have h1 := hcc 0 _ rfl; rwa [show (done.length : Int).toNat * (Kd.slice 85 k85).sz + 0 = done.length from by show (done.length : Int).toNat * 1 + 0 = _; omega] at h1
      have hfu := blk_frozen hcells done.length
      have HRu := am_ hRu
      have HHr := am_ hH
      have HOK := am_ hoki
      clear hcells hRu hH hoki hS hcc
      go_wp2_with fail
      clear hcu hfu
      have hrl : row.length ≤ 9223372036854775807 := (Kd.R_reads' HRu.out).2.2.2.1
      go_loopg [21] row.length (fun jq v21 W => ∃ (dn rs rs' : List S85), v21 = .int .i64 dn.length ∧ rs.length = jq ∧ Aside0 (dn.length + rs.length = row.length) ∧ Aside0 (mapO F rs = some rs') ∧ Aside0 (row' = dn ++ rs') ∧
        Aside0 (Kd.R k85 85 W w.heap.size oki (.slice Au row.length cu) (dn ++ rs)) ∧ Aside0 (Kd.H (Kd.slice 85 k85) 82 W w.heap.size (fun k => w.heap.size + 2 ≤ k ∧ k < w1.heap.size) (.slice (some ⟨g, 0, none⟩) cl.length cv0) (done ++ row :: rest1) done.length oki [.slice Au row.length cu]) ∧
        Aside0 (Below w.heap.size w W) ∧ Aside0 (W.heap[w.heap.size + 1]? = some (Obj.cells #[Value.slice none 0 0] 35)) ∧ Aside0 (W.heap[w1.heap.size]? = some (Obj.cells #[Value.slice (some ⟨g, 0, none⟩) cl.length cv0] 35)))
      case atStart => exact ⟨[], row, row', rfl, rfl, ⟨by simp⟩, M1, ⟨rfl⟩, HRu, HHr, HBr, BRr, BPr⟩
      case round =>
        obtain ⟨dn, rs, rs', rfl, hjq, HLi, HMi, HRi, HRw, HHw, HBw, BRw, BPw⟩ := hrel
        clear HRu HHr HBr BRr BPr M1 HSr
        cases rs with
        | nil =>
          have hrs' : rs' = [] := by have := HMi.out; simp only [mapO, Option.some.injEq] at this; exact this.symm
          subst hrs'
          have hge : ¬ (dn.length : Int) < (row.length : Int) := by have := HLi.out; simp only [List.length_nil] at this; omega
          have HSn := am_ (show Kd.S (Kd.slice 85 k85) 82 wr w.heap.size (fun k => w.heap.size + 2 ≤ k ∧ k < w1.heap.size) (.slice (some ⟨g, 0, none⟩) cl.length cv0) (done ++ [row'] ++ rest1) from by
            have h := Kd.H_back HHw.out (Kd.M_row HRw.out) (fun k hk => hk)
            rw [show (done ++ row :: rest1).set (done.length : Int).toNat (dn ++ []) = done ++ [row'] ++ rest1 from by rw [Int.toNat_natCast, List.set_append_right _ _ (Nat.le_refl _), HRi.out]; simp] at h
            exact h)
          clear HRw HHw
          go_wp2_with fail
          go_roundg rest1.length
          case measure => simp only [List.length_cons] at hkq; omega
          case rel => exact ⟨done ++ [row'], rest1, rest1', by simp, rfl, ⟨by have := HL.out; simp only [List.length_cons] at this; simp only [List.length_append, List.length_singleton]; omega⟩, M2, ⟨by rw [HR.out]; simp⟩, HSn, HBw, BRw, BPw⟩
        | cons d rs1 =>
          have HMM := HMi.out
          clear HMi
          simp only [mapO] at HMM
          obtain ⟨d', hm1, HMM⟩ := Option.bind_eq_some_iff.mp HMM
          obtain ⟨rs1', hm3, HMM⟩ := Option.bind_eq_some_iff.mp HMM
          simp only [Option.some.injEq] at HMM
          subst HMM
          have N1 := am_ hm1
          have N2 := am_ hm3
          clear hm1 hm3
          have hlti : (dn.length : Int) < (row.length : Int) := by have := HLi.out; simp only [List.length_cons] at this; omega
          obtain ⟨gi, capi, eAi, hgi0, hgil, cellsi, hcellsi⟩ := Kd.R_form HRw.out z82_3
          have hR := HRw.out
          have eLi : (dn ++ d :: rs1).length = row.length := by have := HLi.out; simpa using this
          rw [eLi] at eAi
          rw [eAi] at hR
          obtain ⟨ce, hce, hMe, hcce, hfre⟩ := Kd.R_elem hR z85 (dn.length : Int) (by omega) (by omega)
          rw [show (dn ++ d :: rs1).getD (dn.length : Int).toNat z85 = d by simp] at hMe
          obtain rfl := k85_openM hMe
          have hx0 := hcce 0 _ rfl
          have hx1 := hcce 1 _ rfl
          have hx2 := hcce 2 _ rfl
          rw [show (dn.length : Int).toNat * (k85).sz + 0 = dn.length * 3 from by show (dn.length : Int).toNat * 3 + 0 = _; omega] at hx0
          rw [show (dn.length : Int).toNat * (k85).sz + 1 = dn.length * 3 + 1 from by show (dn.length : Int).toNat * 3 + 1 = _; omega] at hx1
          rw [show (dn.length : Int).toNat * (k85).sz + 2 = dn.length * 3 + 2 from by show (dn.length : Int).toNat * 3 + 2 = _; omega] at hx2
          have HRo := am_ hR
          clear hMe hR hcce hfre
          go_wp2_with (go_at_call 102; refine park ?_)
          clear hx0 hx1 hx2
          refine ⟨?_⟩
          refine (HF.out _ d d' (below_alloc HBw.out _) N1.out).mono ?_
          rintro e w2 ⟨rfl, hb⟩
          have HB3 := am_ (below_then (below_alloc HBw.out (Obj.cells #[Value.int IntKind.i64 d.f0, Value.int IntKind.i64 d.f1, Value.int IntKind.i64 d.f2] 85)) (below_alloc HBw.out (Obj.cells #[Value.int IntKind.i64 d.f0, Value.int IntKind.i64 d.f1, Value.int IntKind.i64 d.f2] 85)).size hb)
          have hR3 := Kd.R_below (Kd.R_alloc HRo.out (Obj.cells #[Value.int IntKind.i64 d.f0, Value.int IntKind.i64 d.f1, Value.int IntKind.i64 d.f2] 85)) hb
          have HH3 := am_ (Kd.H_below (Kd.H_alloc HHw.out (Obj.cells #[Value.int IntKind.i64 d.f0, Value.int IntKind.i64 d.f1, Value.int IntKind.i64 d.f2] 85)) hb)
          have BR3 := am_ (blk_below (blk_alloc BRw.out (Obj.cells #[Value.int IntKind.i64 d.f0, Value.int IntKind.i64 d.f1, Value.int IntKind.i64 d.f2] 85)) hb)
          have BP3 := am_ (blk_below (blk_alloc BPw.out (Obj.cells #[Value.int IntKind.i64 d.f0, Value.int IntKind.i64 d.f1, Value.int IntKind.i64 d.f2] 85)) hb)
          have HRn := am_ (HRw.out.1 gi rfl)
          clear HBw HHw BRw BPw HRo HRw hb
          obtain ⟨ce, hce, hMe, hcce, hfre⟩ := Kd.R_elem hR3 z85 (dn.length : Int) (by omega) (by omega)
          rw [show (dn ++ d :: rs1).getD (dn.length : Int).toNat z85 = d by simp] at hMe
          obtain rfl := k85_openM hMe
          have HP := am_ (Kd.R_seg hR3 (dn.length : Int) (by omega) (by omega) (seg := [.int .i64 d'.f0, .int .i64 d'.f1, .int .i64 d'.f2]) (j := 0) hce hcce (show 3 ≤ 3 from by decide) (x' := d') (k85_mkM _ _ _ d') (fun _ hk => hk))
          have hx0 := hcce 0 _ rfl
          have hx1 := hcce 1 _ rfl
          have hx2 := hcce 2 _ rfl
          have hf0 := hfre 0
          have hf1 := hfre 1
          have hf2 := hfre 2
          have e0 : (dn.length : Int).toNat * (k85).sz + 0 = dn.length * 3 := by show (dn.length : Int).toNat * 3 + 0 = _; omega
          have e1 : (dn.length : Int).toNat * (k85).sz + 1 = dn.length * 3 + 1 := by show (dn.length : Int).toNat * 3 + 1 = _; omega
          have e2 : (dn.length : Int).toNat * (k85).sz + 2 = dn.length * 3 + 2 := by show (dn.length : Int).toNat * 3 + 2 = _; omega
          rw [e0] at hx0 hf0
          rw [e1] at hx1 hf1
          rw [e2] at hx2 hf2
          clear e0 e1 e2 hMe hcce hfre hR3
          have HP' := am_ (show Kd.R k85 85 (((w2.setCell ⟨gi, dn.length * 3, none⟩ (.int .i64 d'.f0)).setCell ⟨gi, dn.length * 3 + 1, none⟩ (.int .i64 d'.f1)).setCell ⟨gi, dn.length * 3 + 2, none⟩ (.int .i64 d'.f2)) w.heap.size oki (.slice (some ⟨gi, 0, none⟩) row.length cu) (dn ++ [d'] ++ rs1) ∧ w2.grownBy (((w2.setCell ⟨gi, dn.length * 3, none⟩ (.int .i64 d'.f0)).setCell ⟨gi, dn.length * 3 + 1, none⟩ (.int .i64 d'.f1)).setCell ⟨gi, dn.length * 3 + 2, none⟩ (.int .i64 d'.f2)) (some gi) from by
            have h := HP.out
            rw [show (dn.length : Int).toNat * (k85).sz + 0 = dn.length * 3 from by show (dn.length : Int).toNat * 3 + 0 = _; omega, show (dn ++ d :: rs1).set (dn.length : Int).toNat d' = dn ++ [d'] ++ rs1 from by rw [Int.toNat_natCast, List.set_append_right _ _ (Nat.le_refl _)]; simp] at h
            exact h)
          clear HP
          go_wp2_with fail
          clear hx0 hx1 hx2 hf0 hf1 hf2
          go_roundg rs1.length
          case measure => simp only [List.length_cons] at hjq; omega
          case rel =>
            have hOKn := (HOK.out _ HRn.out).1
            exact ⟨dn ++ [d'], rs1, rs1', by simp, rfl, ⟨by have := HLi.out; simp only [List.length_cons] at this; simp only [List.length_append, List.length_singleton]; omega⟩, N2, ⟨by rw [HRi.out]; simp⟩, ⟨HP'.out.1⟩, ⟨Kd.H_grown HH3.out HP'.out.2 (fun k hk => z82_2)⟩,
              ⟨HB3.out.grown HP'.out.2 HB3.out.size (fun k hk => by injection hk with hk; omega)⟩, ⟨blk_grown BR3.out HP'.out.2 (fun e => z82_1)⟩, ⟨blk_grown BP3.out HP'.out.2 (fun e => z82_1)⟩⟩


end Go.Proofs.Ytefkbmhkhpekjaa.PB

namespace Go.Proofs.Ytefkbmhkhpekjaa.PB
open Go.RowKit Go.Proofs.YtefkbmhkhpekjaaW.PrintWords Go.Proofs.YtefkbmhkhpekjaaW.PrintLast Go.Proofs.YtefkbmhkhpekjaaW.PrintMore
attribute [local go_sem] max2_int min2_int max_two min_two max_three min_three max_four min_four   -- for this text's walks alone
open Go.Proofs.YtefkbmhkhpekjaaMine
set_option linter.unusedVariables false
set_option linter.unusedSimpArgs false

theorem z133_1 {p : Prop} (h : p := by first | rfl | (simp; done) | (simp [*]; done)) : p := h
theorem z133_2 {p : Prop} (h : p := by first | (with_reducible assumption) | assumption) : p := h
theorem z133_3 {p : Prop} (h : p := by repeat (first | exact Drawn0.refl _ | apply Drawn0.step)) : p := h
/-! ### slices_Index_int_int: function 133 -/
def slices_Index_int_int.l0 : Nat → List Int → Int → Int → Int → Option (Int)
  | 0, _, _, _, _ => none
  | k + 1, x0, x1, x7, x8 => if x8 < x7 then (if 0 ≤ x8 then (if x8 < (x0.length : Int) then (if x1 = (rd x0 x8) then (some x8) else (slices_Index_int_int.l0 k x0 x1 x7 (wrap64 (x8 + 1)))) else (none)) else (none)) else (some (-1))
def slices_Index_int_int.f (k : Nat) (l0 : List Int) (a1 : Int) : Option (Int) := slices_Index_int_int.l0 k l0 a1 (l0.length : Int) 0
theorem slices_Index_int_int.mono_l : ∀ k, (∀ y0 y1 y2 y3, LeO (slices_Index_int_int.l0 k y0 y1 y2 y3) (slices_Index_int_int.l0 (k + 1) y0 y1 y2 y3))
  | 0 => fun _ _ _ _ r h => by simp [slices_Index_int_int.l0] at h
  | k + 1 => by
    have ih0 := slices_Index_int_int.mono_l k
    · intro y0 y1 y2 y3
      unfold slices_Index_int_int.l0
      repeat' first
      | (with_reducible exact ih0 _ _ _ _)
      | (with_reducible exact LeO.refl _)
      | (with_reducible exact LeO.none _)
      | (with_reducible refine LeO.ite ?_ ?_)
      | (with_reducible refine LeO.bind ?_ (fun _ => ?_))
      | exact ih0 _ _ _ _
      | exact LeO.none _
      | refine LeO.ite ?_ ?_
      | refine LeO.bind ?_ (fun _ => ?_)
theorem slices_Index_int_int.mono : ∀ a0 a1 k, LeO (slices_Index_int_int.f k a0 a1) (slices_Index_int_int.f (k + 1) a0 a1) := by
  intro a0 a1 k
  have ih0 := slices_Index_int_int.mono_l k
  unfold slices_Index_int_int.f
  repeat' first
      | (with_reducible exact ih0 _ _ _ _)
      | (with_reducible exact LeO.refl _)
      | (with_reducible exact LeO.none _)
      | (with_reducible refine LeO.ite ?_ ?_)
      | (with_reducible refine LeO.bind ?_ (fun _ => ?_))
      | exact ih0 _ _ _ _
      | exact LeO.none _
      | refine LeO.ite ?_ ?_
      | refine LeO.bind ?_ (fun _ => ?_)
set_option maxHeartbeats 8000000 in
set_option maxRecDepth 100000 in
theorem slices_Index_int_int.calls (k : Nat) (A0 : Option Addr) (c0 : Nat) (l0 : List Int) (a1 : Int) (r : Int) (w : World) (hr0 : Kd.C (Kd.int .i64) w A0 l0.length l0) (hc0 : l0.length ≤ c0) (h : slices_Index_int_int.f k l0 a1 = some r) :
  Calls Try.prog 133 #[.slice A0 l0.length c0, .int .i64 a1] w fun e w' => e = .returned (.int .i64 r) ∧ Drawn0 w w' := by
 have HR0 := am_ hr0
 have HC0 := am_ hc0
 clear hr0 hc0
 have H : (slices_Index_int_int.l0 k l0 a1 (l0.length : Int) 0) = some r := h
 clear h
 have H' := am_ H
 clear H
 go_enter Try.func133, Try.ntmps133
 go_wp2
 go_loopg [8] k (fun kq v8 w' => ∃ (x8_1 : Int), v8 = .int .i64 x8_1 ∧ Aside0 (slices_Index_int_int.l0 kq l0 a1 (l0.length : Int) x8_1 = some r) ∧ Aside0 (kq ≤ k) ∧ Drawn0 w w')
 case atStart => exact ⟨(0), z133_1, H', ⟨Nat.le_refl _⟩, z133_3⟩
 case round =>
  clear H'
  obtain ⟨x8_1, rfl, HA, HK1, ⟨m1, rfl⟩⟩ := hrel
  cases gk with
  | zero => exact absurd HA.out (by simp [slices_Index_int_int.l0])
  | succ k1 =>
   have H := HA.out
   clear HA
   simp only [slices_Index_int_int.l0] at H
   by_cases c3 : x8_1 < (l0.length : Int)
   ·rw [if_pos c3] at H
    have c3b0 : decide (x8_1 < (l0.length : Int)) = true := decide_eq_true c3
    clear c3
    by_cases c4 : 0 ≤ x8_1
    ·rw [if_pos c4] at H
     have c4b0 : decide (0 ≤ x8_1) = true := decide_eq_true c4
     clear c4
     by_cases c5 : x8_1 < (l0.length : Int)
     ·rw [if_pos c5] at H
      have c5b0 : decide (x8_1 < (l0.length : Int)) = true := decide_eq_true c5
      clear c5
      by_cases c6 : a1 = (rd l0 x8_1)
      ·rw [if_pos c6] at H
       have c6b0 : (a1 == (rd l0 x8_1)) = true := beq_iff_eq.mpr c6
       have c6b1 : (a1 != (rd l0 x8_1)) = false := bne_eq_false_iff_eq.mpr c6
       clear c6
       obtain rfl := Option.some.inj H
       have p456 : 0 ≤ (x8_1 : Int) := of_decide_eq_true z133_2
       have q456 : x8_1 < (l0.length : Int) := of_decide_eq_true z133_2
       obtain ⟨ad456, e456, hx456_0⟩ := Kd.at_int HR0.out x8_1 p456 q456
       cases e456
       replace p456 := eq_true p456
       replace q456 := eq_true q456
       go_wp2
       go_ret
       exact ⟨z133_1, z133_3⟩
      ·rw [if_neg c6] at H
       have c6b0 : (a1 == (rd l0 x8_1)) = false := beq_eq_false_iff_ne.mpr c6
       have c6b1 : (a1 != (rd l0 x8_1)) = true := bne_iff_ne.mpr c6
       have H' := am_ H
       clear H
       have p456 : 0 ≤ (x8_1 : Int) := of_decide_eq_true z133_2
       have q456 : x8_1 < (l0.length : Int) := of_decide_eq_true z133_2
       obtain ⟨ad456, e456, hx456_0⟩ := Kd.at_int HR0.out x8_1 p456 q456
       cases e456
       replace p456 := eq_true p456
       replace q456 := eq_true q456
       go_wp2
       go_roundg k1
       case measure => have := HK1.out; omega
       case rel => exact ⟨(wrap64 (x8_1 + 1)), z133_1, H', ⟨by have := HK1.out; omega⟩, z133_3⟩
     ·rw [if_neg c5] at H
      exact absurd H (by simp)
    ·rw [if_neg c4] at H
     exact absurd H (by simp)
   ·rw [if_neg c3] at H
    have c3b0 : decide (x8_1 < (l0.length : Int)) = false := decide_eq_false c3
    clear c3
    obtain rfl := Option.some.inj H
    go_wp2
    go_ret
    exact ⟨z133_1, z133_3⟩

end Go.Proofs.Ytefkbmhkhpekjaa.PB

namespace Go.Proofs.Ytefkbmhkhpekjaa.PB
open Go.RowKit Go.Proofs.YtefkbmhkhpekjaaW.PrintWords Go.Proofs.YtefkbmhkhpekjaaW.PrintLast Go.Proofs.YtefkbmhkhpekjaaW.PrintMore
attribute [local go_sem] max2_int min2_int max_two min_two max_three min_three max_four min_four   -- for this text's walks alone
open Go.Proofs.YtefkbmhkhpekjaaMine
set_option linter.unusedVariables false
set_option linter.unusedSimpArgs false

/-! ### slices_Contains_int_int: function 120 -/
def slices_Contains_int_int.f (k : Nat) (l0 : List Int) (a1 : Int) : Option (Bool) := (slices_Index_int_int.f k l0 a1).bind fun t457 => (some (decide (t457 ≥ 0)))
theorem slices_Contains_int_int.mono : ∀ a0 a1 k, LeO (slices_Contains_int_int.f k a0 a1) (slices_Contains_int_int.f (k + 1) a0 a1) := by
  intro a0 a1 k
  unfold slices_Contains_int_int.f
  repeat' first
      | (with_reducible exact slices_Index_int_int.mono _ _ _)
      | (with_reducible exact LeO.refl _)
      | (with_reducible exact LeO.none _)
      | (with_reducible refine LeO.ite ?_ ?_)
      | (with_reducible refine LeO.bind ?_ (fun _ => ?_))
      | exact slices_Index_int_int.mono _ _ _
      | exact LeO.none _
      | refine LeO.ite ?_ ?_
      | refine LeO.bind ?_ (fun _ => ?_)
set_option maxHeartbeats 8000000 in
set_option maxRecDepth 100000 in
theorem slices_Contains_int_int.calls (k : Nat) (A0 : Option Addr) (c0 : Nat) (l0 : List Int) (a1 : Int) (r : Bool) (w : World) (hr0 : Kd.C (Kd.int .i64) w A0 l0.length l0) (hc0 : l0.length ≤ c0) (h : slices_Contains_int_int.f k l0 a1 = some r) :
  Calls Try.prog 120 #[.slice A0 l0.length c0, .int .i64 a1] w fun e w' => e = .returned (.bool r) ∧ Drawn0 w w' := by
 have HR0 := am_ hr0
 have HC0 := am_ hc0
 clear hr0 hc0
 have H : ((slices_Index_int_int.f k l0 a1).bind fun t457 => (some (decide (t457 ≥ 0)))) = some r := h
 clear h
 replace H := Option.bind_eq_some_iff.mp H
 obtain ⟨t457, A30, H⟩ := H
 replace H : (some (decide (t457 ≥ 0))) = some r := H
 have A3 := am_ A30
 clear A30
 obtain rfl := Option.some.inj H
 go_enter Try.func120, Try.ntmps120
 go_wp2_with (first | ((with_reducible refine gate_callee (f := 133) rfl ?_); refine goesL_ (some 7) rfl rfl Try.func133 (by kernel_rfl) rfl #[.slice A0 l0.length c0, .int .i64 a1] rfl (by (try simp only [List.map_toArray, List.map_cons, List.map_nil]); first | done | rfl | (simp only [List.length_drop, List.length_take]; rfl)) ?_; (with_reducible refine (slices_Index_int_int.calls k _ _ l0 a1 t457 _ ?side1 ?side2 A3.out).mono ?_); (case side1 => repeat (first | exact HR0.out | (with_reducible refine Kd.C_alloc ?_ _) | (with_reducible refine Kd.C_drewN ?_ _) | (with_reducible refine Kd.C_drew ?_))); (case side2 => exact HC0.out); rintro e w' ⟨rfl, ⟨nd, rfl⟩⟩; refine ⟨_, rfl, ?_⟩))
 go_ret
 exact ⟨by first | rfl | (simp; done) | (simp [*]; done), by repeat (first | exact Drawn0.refl _ | apply Drawn0.step)⟩

end Go.Proofs.Ytefkbmhkhpekjaa.PB

namespace Go.Proofs.Ytefkbmhkhpekjaa.PB
open Go.RowKit Go.Proofs.YtefkbmhkhpekjaaW.PrintWords Go.Proofs.YtefkbmhkhpekjaaW.PrintLast Go.Proofs.YtefkbmhkhpekjaaW.PrintMore
attribute [local go_sem] max2_int min2_int max_two min_two max_three min_three max_four min_four   -- for this text's walks alone
open Go.Proofs.YtefkbmhkhpekjaaMine
set_option linter.unusedVariables false
set_option linter.unusedSimpArgs false

theorem z97_1 {p : Prop} (h : p := by first | rfl | (simp; done) | (simp [*]; done)) : p := h
theorem z97_2 {p : Prop} (h : p := by repeat (first | exact Drawn0.refl _ | apply Drawn0.step)) : p := h
/-! ### impl_isRow: function 97 -/
def impl_isRow.l0 : Nat → List Int → Int → Int → Option (Bool)
  | 0, _, _, _ => none
  | k + 1, x0, x10, x11 => if x11 < x10 then ((slices_Contains_int_int.f k x0 x11).bind fun t1006 => (if t1006 = true then (impl_isRow.l0 k x0 x10 (wrap64 (x11 + 1))) else (some false))) else (some true)
def impl_isRow.f (k : Nat) (l0 : List Int) (a1 : Int) : Option (Bool) := if (l0.length : Int) = a1 then (impl_isRow.l0 k l0 a1 0) else (some false)
theorem impl_isRow.mono_l : ∀ k, (∀ y0 y1 y2, LeO (impl_isRow.l0 k y0 y1 y2) (impl_isRow.l0 (k + 1) y0 y1 y2))
  | 0 => fun _ _ _ r h => by simp [impl_isRow.l0] at h
  | k + 1 => by
    have ih0 := impl_isRow.mono_l k
    · intro y0 y1 y2
      unfold impl_isRow.l0
      repeat' first
      | (with_reducible exact ih0 _ _ _)
      | (with_reducible exact slices_Contains_int_int.mono _ _ _)
      | (with_reducible exact LeO.refl _)
      | (with_reducible exact LeO.none _)
      | (with_reducible refine LeO.ite ?_ ?_)
      | (with_reducible refine LeO.bind ?_ (fun _ => ?_))
      | exact ih0 _ _ _
      | exact slices_Contains_int_int.mono _ _ _
      | exact LeO.none _
      | refine LeO.ite ?_ ?_
      | refine LeO.bind ?_ (fun _ => ?_)
theorem impl_isRow.mono : ∀ a0 a1 k, LeO (impl_isRow.f k a0 a1) (impl_isRow.f (k + 1) a0 a1) := by
  intro a0 a1 k
  have ih0 := impl_isRow.mono_l k
  unfold impl_isRow.f
  repeat' first
      | (with_reducible exact ih0 _ _ _)
      | (with_reducible exact slices_Contains_int_int.mono _ _ _)
      | (with_reducible exact LeO.refl _)
      | (with_reducible exact LeO.none _)
      | (with_reducible refine LeO.ite ?_ ?_)
      | (with_reducible refine LeO.bind ?_ (fun _ => ?_))
      | exact ih0 _ _ _
      | exact slices_Contains_int_int.mono _ _ _
      | exact LeO.none _
      | refine LeO.ite ?_ ?_
      | refine LeO.bind ?_ (fun _ => ?_)
set_option maxHeartbeats 8000000 in
set_option maxRecDepth 100000 in
theorem impl_isRow.calls (k : Nat) (A0 : Option Addr) (c0 : Nat) (l0 : List Int) (a1 : Int) (r : Bool) (w : World) (hr0 : Kd.C (Kd.int .i64) w A0 l0.length l0) (hc0 : l0.length ≤ c0) (h : impl_isRow.f k l0 a1 = some r) :
  Calls Try.prog 97 #[.slice A0 l0.length c0, .int .i64 a1] w fun e w' => e = .returned (.bool r) ∧ Drawn0 w w' := by
 have HR0 := am_ hr0
 have HC0 := am_ hc0
 clear hr0 hc0
 have H : (if (l0.length : Int) = a1 then (impl_isRow.l0 k l0 a1 0) else (some false)) = some r := h
 clear h
 by_cases c3 : (l0.length : Int) = a1
 ·rw [if_pos c3] at H
  have c3b0 : ((l0.length : Int) == a1) = true := beq_iff_eq.mpr c3
  have c3b1 : ((l0.length : Int) != a1) = false := bne_eq_false_iff_eq.mpr c3
  clear c3
  have H' := am_ H
  clear H
  go_enter Try.func97, Try.ntmps97
  go_wp2
  go_loopg [11] k (fun kq v11 w' => ∃ (x11_1 : Int), v11 = .int .i64 x11_1 ∧ Aside0 (impl_isRow.l0 kq l0 a1 x11_1 = some r) ∧ Aside0 (kq ≤ k) ∧ Drawn0 w w')
  case atStart => exact ⟨(0), z97_1, H', ⟨Nat.le_refl _⟩, z97_2⟩
  case round =>
   clear H'
   obtain ⟨x11_1, rfl, HA, HK1, ⟨m1, rfl⟩⟩ := hrel
   cases gk with
   | zero => exact absurd HA.out (by simp [impl_isRow.l0])
   | succ k1 =>
    have H := HA.out
    clear HA
    simp only [impl_isRow.l0] at H
    by_cases c4 : x11_1 < a1
    ·rw [if_pos c4] at H
     have c4b0 : decide (x11_1 < a1) = true := decide_eq_true c4
     clear c4
     replace H := Option.bind_eq_some_iff.mp H
     obtain ⟨t1006, A50, H⟩ := H
     replace H : (if t1006 = true then (impl_isRow.l0 k1 l0 a1 (wrap64 (x11_1 + 1))) else (some false)) = some r := H
     have A5 := am_ A50
     clear A50
     by_cases c6 : t1006 = true
     ·subst c6
      have H1 : (impl_isRow.l0 k1 l0 a1 (wrap64 (x11_1 + 1))) = some r := by rw [if_pos rfl] at H; exact H
      clear H
      have H := H1
      clear H1
      have H' := am_ H
      clear H
      go_wp2_with (first | ((with_reducible refine gate_callee (f := 120) rfl ?_); refine goesL_ (some 16) rfl rfl Try.func120 (by kernel_rfl) rfl #[.slice A0 l0.length c0, .int .i64 x11_1] rfl (by (try simp only [List.map_toArray, List.map_cons, List.map_nil]); first | done | rfl | (simp only [List.length_drop, List.length_take]; rfl)) ?_; (with_reducible refine (slices_Contains_int_int.calls k1 _ _ l0 x11_1 true _ ?side1 ?side2 A5.out).mono ?_); (case side1 => repeat (first | exact HR0.out | (with_reducible refine Kd.C_alloc ?_ _) | (with_reducible refine Kd.C_drewN ?_ _) | (with_reducible refine Kd.C_drew ?_))); (case side2 => exact HC0.out); rintro e w' ⟨rfl, ⟨nd, rfl⟩⟩; refine ⟨_, rfl, ?_⟩))
      go_roundg k1
      case measure => have := HK1.out; omega
      case rel => exact ⟨(wrap64 (x11_1 + 1)), z97_1, H', ⟨by have := HK1.out; omega⟩, z97_2⟩
     ·replace c6 := Bool.eq_false_iff.mpr c6
      subst c6
      have H1 : (some false) = some r := by rw [if_neg (show ¬ (false = true) by decide)] at H; exact H
      clear H
      have H := H1
      clear H1
      obtain rfl := Option.some.inj H
      go_wp2_with (first | ((with_reducible refine gate_callee (f := 120) rfl ?_); refine goesL_ (some 16) rfl rfl Try.func120 (by kernel_rfl) rfl #[.slice A0 l0.length c0, .int .i64 x11_1] rfl (by (try simp only [List.map_toArray, List.map_cons, List.map_nil]); first | done | rfl | (simp only [List.length_drop, List.length_take]; rfl)) ?_; (with_reducible refine (slices_Contains_int_int.calls k1 _ _ l0 x11_1 false _ ?side1 ?side2 A5.out).mono ?_); (case side1 => repeat (first | exact HR0.out | (with_reducible refine Kd.C_alloc ?_ _) | (with_reducible refine Kd.C_drewN ?_ _) | (with_reducible refine Kd.C_drew ?_))); (case side2 => exact HC0.out); rintro e w' ⟨rfl, ⟨nd, rfl⟩⟩; refine ⟨_, rfl, ?_⟩))
      go_ret
      exact ⟨z97_1, z97_2⟩
    ·rw [if_neg c4] at H
     have c4b0 : decide (x11_1 < a1) = false := decide_eq_false c4
     clear c4
     obtain rfl := Option.some.inj H
     go_wp2
     go_ret
     exact ⟨z97_1, z97_2⟩
 ·rw [if_neg c3] at H
  have c3b0 : ((l0.length : Int) == a1) = false := beq_eq_false_iff_ne.mpr c3
  have c3b1 : ((l0.length : Int) != a1) = true := bne_iff_ne.mpr c3
  obtain rfl := Option.some.inj H
  go_enter Try.func97, Try.ntmps97
  go_wp2
  go_ret
  exact ⟨z97_1, z97_2⟩

end Go.Proofs.Ytefkbmhkhpekjaa.PB

namespace Go.Proofs.Ytefkbmhkhpekjaa.PB
open Go.RowKit Go.Proofs.YtefkbmhkhpekjaaW.PrintWords Go.Proofs.YtefkbmhkhpekjaaW.PrintLast Go.Proofs.YtefkbmhkhpekjaaW.PrintMore
attribute [local go_sem] max2_int min2_int max_two min_two max_three min_three max_four min_four   -- for this text's walks alone
open Go.Proofs.YtefkbmhkhpekjaaMine
set_option linter.unusedVariables false
set_option linter.unusedSimpArgs false

/-! ### impl_TurnVals: function 52 -/
def valsF (row : List Int) (d : S85) : Option S85 := if 0 ≤ d.f2 ∧ d.f2 < (row.length : Int) then some ⟨d.f0, d.f1, rd row d.f2⟩ else none
set_option maxRecDepth 100000 in
set_option maxHeartbeats 4000000 in
theorem impl_TurnVals.closure (w : World) (d r : S85) (row : List Int) (A : Option Addr) (c : Nat) (gr : Nat) (hm : w.heap[gr]? = some (.cells #[.slice A row.length c] 22 (0, 0))) (hC : Kd.C (Kd.int .i64) w A row.length row) (h : valsF row d = some r) :
    Calls Try.prog 102 #[.agg #[.int .i64 d.f0, .int .i64 d.f1, .int .i64 d.f2], .pointer (some ⟨gr, 0, none⟩)] w fun e w' => e = .returned (.agg #[.int .i64 r.f0, .int .i64 r.f1, .int .i64 r.f2]) ∧ Below w.heap.size w w' := by
  unfold valsF at h
  split at h
  rotate_left
  · cases h
  rename_i hin
  obtain ⟨h0, h1⟩ := hin
  obtain rfl := Option.some.inj h
  clear h
  obtain ⟨ad, rfl, hx⟩ := Kd.at_int (Kd.C_alloc (Kd.C_alloc hC (Obj.cells #[.int .i64 d.f0, .int .i64 d.f1, .int .i64 d.f2] 85)) (Obj.cells #[.int .i64 0, .int .i64 0, .int .i64 0] 85)) d.f2 h0 h1
  have hcr : ((w.alloc (Obj.cells #[.int .i64 d.f0, .int .i64 d.f1, .int .i64 d.f2] 85)).alloc (Obj.cells #[.int .i64 0, .int .i64 0, .int .i64 0] 85)).cell? ⟨gr, 0, none⟩ = some (.slice (some ad) row.length c) := (blk_cell (blk_alloc (blk_alloc hm _) _) 0).trans rfl
  have b0 := decide_eq_true h0
  have b1 := decide_eq_true h1
  clear hm hC
  go_enter Try.func102, Try.ntmps102
  go_wp2_with fail
  refine bodyPost_ret (v := .agg #[.int .i64 d.f0, .int .i64 d.f1, .int .i64 (rd row d.f2)]) (by simp [results, Try.results102, go_sem]) rfl ⟨rfl, ?_⟩
  exact below_alloc (below_alloc (Below.refl _ _) _) _
def impl_TurnVals.body (k : Nat) (l0_0 : List (List S85)) (l1 : List Int) : Option (List (List S85) × Bool) := ((impl_Prog_copied.f k l0_0).bind fun c => (mapO (mapO (valsF l1)) c).bind fun r => some (r, true))
def impl_TurnVals.f (k : Nat) (l0_0 : List (List S85)) (l1 : List Int) : Option (List (List S85) × Bool) := (impl_ProgOk.f k l0_0).bind fun b => if b = true then ((impl_isRow.f k l1 4).bind fun q => if q = true then (if 0 < (l1.length : Int) then (if rd l1 0 = 0 then impl_TurnVals.body k l0_0 l1 else some ([], false)) else none) else some ([], false)) else some ([], false)
theorem impl_TurnVals.mono_body (k : Nat) (l0_0 : List (List S85)) (l1 : List Int) : LeO (impl_TurnVals.body k l0_0 l1) (impl_TurnVals.body (k + 1) l0_0 l1) := LeO.bind (impl_Prog_copied.mono _ _) (fun _ => LeO.refl _)
theorem impl_TurnVals.mono : ∀ l0_0 l1 k, LeO (impl_TurnVals.f k l0_0 l1) (impl_TurnVals.f (k + 1) l0_0 l1) := by
  intro l0_0 l1 k
  unfold impl_TurnVals.f
  exact LeO.bind (impl_ProgOk.mono _ _) (fun b => LeO.ite (LeO.bind (impl_isRow.mono _ _ _) (fun q => LeO.ite (LeO.ite (LeO.ite (impl_TurnVals.mono_body _ _ _) (LeO.refl _)) (LeO.refl _)) (LeO.refl _))) (LeO.refl _))
set_option maxRecDepth 100000 in
set_option maxHeartbeats 8000000 in
theorem impl_TurnVals.calls (k : Nat) (A0_0 : Option Addr) (c0_0 : Nat) (l0_0 : List (List S85)) (A1 : Option Addr) (c1 : Nat) (l1 : List Int) (r1 : List (List S85)) (r2 : Bool) (w : World) (hr0_0 : Kd.C (Kd.slice 85 k85) w A0_0 l0_0.length l0_0) (hc0_0 : l0_0.length ≤ c0_0) (hr1 : Kd.C (Kd.int .i64) w A1 l1.length l1) (hc1 : l1.length ≤ c1) (h : impl_TurnVals.f k l0_0 l1 = some (r1, r2)) :
  Calls Try.prog 52 #[.agg #[.slice A0_0 l0_0.length c0_0], .slice A1 l1.length c1] w fun e w' => ∃ v0_ : Value, e = .returned (.tuple #[.agg #[v0_], .bool r2]) ∧ Kd.S (Kd.slice 85 k85) 82 w' w.heap.size (fun _ => True) v0_ r1 ∧ Below w.heap.size w w' := by
 have HC := am_ hr0_0
 have HC1 := am_ hr1
 obtain ⟨b, e1, h⟩ := Option.bind_eq_some_iff.mp h
 have E1 := am_ e1
 have H := am_ h
 clear hr0_0 hr1 e1 h
 have hmf : ∀ (fn : Fn) (first cap : Array Value) (w : World), (Instr.makeFunc fn first cap).run Try.prog w = .ok (.func fn first cap) w := fun _ _ _ _ => rfl
 go_enter Try.func52, Try.ntmps52
 go_wp2_with (go_at_call 31; refine park ?_)
 refine ⟨?_⟩
 refine (impl_ProgOk.calls k A0_0 c0_0 l0_0 b _ (Kd.C_alloc (Kd.C_alloc (Kd.C_alloc HC.out _) _) _) hc0_0 E1.out).mono ?_
 rintro e w1 ⟨rfl, hb⟩
 have B3 := below_alloc (below_alloc (below_alloc (Below.refl w.heap.size w) (Obj.cells #[Value.slice A0_0 l0_0.length c0_0] 35)) (Obj.cells #[Value.slice A1 l1.length c1] 22)) (Obj.cells #[Value.slice none 0 0] 35)
 have SZ : (((w.alloc (Obj.cells #[Value.slice A0_0 l0_0.length c0_0] 35)).alloc (Obj.cells #[Value.slice A1 l1.length c1] 22)).alloc (Obj.cells #[Value.slice none 0 0] 35)).heap.size = w.heap.size + 3 := by rw [World.size_alloc, World.size_alloc, World.size_alloc]
 have hbr := blk_below (heap_alloc_new ((w.alloc (Obj.cells #[Value.slice A0_0 l0_0.length c0_0] 35)).alloc (Obj.cells #[Value.slice A1 l1.length c1] 22)) (Obj.cells #[Value.slice none 0 0] 35)) hb
 rw [World.size_alloc, World.size_alloc] at hbr
 have hbw := blk_below (blk_alloc (heap_alloc_new (w.alloc (Obj.cells #[Value.slice A0_0 l0_0.length c0_0] 35)) (Obj.cells #[Value.slice A1 l1.length c1] 22)) (Obj.cells #[Value.slice none 0 0] 35)) hb
 rw [World.size_alloc] at hbw
 have BR := am_ hbr
 have BW := am_ hbw
 have BP := am_ (blk_below (blk_alloc (blk_alloc (heap_alloc_new w (Obj.cells #[Value.slice A0_0 l0_0.length c0_0] 35)) (Obj.cells #[Value.slice A1 l1.length c1] 22)) (Obj.cells #[Value.slice none 0 0] 35)) hb)
 have HB := am_ (below_then B3 B3.size hb)
 have HC2 := am_ (Kd.C_below (Kd.C_alloc (Kd.C_alloc (Kd.C_alloc HC.out (Obj.cells #[Value.slice A0_0 l0_0.length c0_0] 35)) (Obj.cells #[Value.slice A1 l1.length c1] 22)) (Obj.cells #[Value.slice none 0 0] 35)) hb)
 have HR2 := am_ (Kd.C_below (Kd.C_alloc (Kd.C_alloc (Kd.C_alloc HC1.out (Obj.cells #[Value.slice A0_0 l0_0.length c0_0] 35)) (Obj.cells #[Value.slice A1 l1.length c1] 22)) (Obj.cells #[Value.slice none 0 0] 35)) hb)
 have LT := am_ (show w.heap.size + 3 ≤ w1.heap.size by have := hb.size; omega)
 clear hb hbr hbw SZ HC HC1 E1 B3
 cases b with
 | false =>
  have hcr : w1.cell? ⟨w.heap.size + 1 + 1, 0, none⟩ = some (.slice none 0 0) := (blk_cell BR.out 0).trans rfl
  have hfr := blk_frozen BR.out 0
  have e2 := Option.some.inj H.out
  simp only [Prod.mk.injEq] at e2
  obtain ⟨rfl, rfl⟩ := e2
  go_wp2_with fail
  refine bodyPost_ret (results_ct rfl _ _ (w.heap.size + 1 + 1) 35 #[.slice none 0 0] (0, 0) _ rfl (blk_set BR.out 0 _) Try.underlying35 rfl (by kernel_rfl)) rfl ?_
  exact ⟨_, rfl, Kd.S_nil _ _ _ _ _, below_set HB.out (by omega)⟩
 | true =>
  obtain ⟨q, e2, H2⟩ := Option.bind_eq_some_iff.mp H.out
  have E2 := am_ e2
  have HQ := am_ H2
  have hcw : w1.cell? ⟨w.heap.size + 1, 0, none⟩ = some (.slice A1 l1.length c1) := (blk_cell BW.out 0).trans rfl
  clear e2 H2 H
  go_wp2_with (go_at_call 97; refine park ?_)
  clear hcw
  refine ⟨?_⟩
  refine (impl_isRow.calls k A1 c1 l1 4 q _ HR2.out hc1 E2.out).mono ?_
  rintro e w2 ⟨rfl, hd⟩
  have hb : Below w1.heap.size w1 w2 := hd.below
  clear hd
  have BR2 := am_ (blk_below BR.out hb)
  have BW2 := am_ (blk_below BW.out hb)
  have BP2 := am_ (blk_below BP.out hb)
  have HC3 := am_ (Kd.C_below HC2.out hb)
  have HR3 := am_ (Kd.C_below HR2.out hb)
  have HB2 := am_ (below_then HB.out HB.out.size hb)
  have LT2 := am_ (show w.heap.size + 3 ≤ w2.heap.size by have := hb.size; have := LT.out; omega)
  clear hb BR BW BP HC2 HR2 HB LT E2
  have hcr : w2.cell? ⟨w.heap.size + 1 + 1, 0, none⟩ = some (.slice none 0 0) := (blk_cell BR2.out 0).trans rfl
  have hfr := blk_frozen BR2.out 0
  cases q with
  | false =>
   have e2 := Option.some.inj HQ.out
   simp only [Prod.mk.injEq] at e2
   obtain ⟨rfl, rfl⟩ := e2
   go_wp2_with fail
   refine bodyPost_ret (results_ct rfl _ _ (w.heap.size + 1 + 1) 35 #[.slice none 0 0] (0, 0) _ rfl (blk_set BR2.out 0 _) Try.underlying35 rfl (by kernel_rfl)) rfl ?_
   exact ⟨_, rfl, Kd.S_nil _ _ _ _ _, below_set HB2.out (by omega)⟩
  | true =>
   have HK := HQ.out
   rw [if_pos rfl] at HK
   by_cases hp : 0 < (l1.length : Int)
   rotate_left
   ·rw [if_neg hp] at HK; cases HK
   rw [if_pos hp] at HK
   obtain ⟨ad, rfl, hx⟩ := Kd.at_int HR3.out 0 (by omega) hp
   have e1 : ad.add ((0 : Int).toNat) = ad := by unfold Addr.add; simp
   rw [e1] at hx
   clear e1
   have hcw : w2.cell? ⟨w.heap.size + 1, 0, none⟩ = some (.slice (some ad) l1.length c1) := (blk_cell BW2.out 0).trans rfl
   have bp := decide_eq_true hp
   by_cases hz : rd l1 0 = 0
   ·rw [if_pos hz] at HK
    rw [hz] at hx
    clear hcr hfr
    have hcp : w2.cell? ⟨w.heap.size, 0, none⟩ = some (.slice A0_0 l0_0.length c0_0) := (blk_cell BP2.out 0).trans rfl
    go_wp2_with (go_at_call 82; refine park ?_)
    refine ⟨?_⟩
    clear hcp hcw hx
    unfold impl_TurnVals.body at HK
    obtain ⟨cl, e3, HK⟩ := Option.bind_eq_some_iff.mp HK
    obtain ⟨rr, e4, HK⟩ := Option.bind_eq_some_iff.mp HK
    simp only [Option.some.injEq, Prod.mk.injEq] at HK
    obtain ⟨rfl, rfl⟩ := HK
    refine (each102 k (valsF l1) (.pointer (some ⟨w.heap.size + 1, 0, none⟩)) A0_0 c0_0 l0_0 cl rr _ HC3.out hc0_0
     (fun W d d' hW hd => impl_TurnVals.closure W d d' l1 (some ad) c1 (w.heap.size + 1) (blk_below BW2.out hW) (Kd.C_below HR3.out hW) hd) e3 e4).mono ?_
    rintro e w5 ⟨v5, rfl, hS, hb⟩
    obtain ⟨Av, cv, rfl⟩ := Kd.S_slice hS
    have BR6 := am_ (blk_below BR2.out hb)
    have HB6 := am_ (below_then HB2.out HB2.out.size hb)
    have HS6 := am_ (Kd.S_lower (Kd.S_mono (ok' := fun k => w.heap.size + 3 ≤ k) (Kd.S_bound hS) (fun k hk => by have := hk.2.1; have := LT2.out; omega)) (show w.heap.size ≤ _ from HB2.out.size))
    clear hS hb e3 e4
    have hcr : w5.cell? ⟨w.heap.size + 1 + 1, 0, none⟩ = some (.slice none 0 0) := (blk_cell BR6.out 0).trans rfl
    have hfr := blk_frozen BR6.out 0
    go_wp2_with fail
    refine bodyPost_ret (results_ct rfl _ _ (w.heap.size + 1 + 1) 35 #[.slice Av rr.length cv] (0, 0) _ rfl (blk_set BR6.out 0 _) Try.underlying35 rfl (by kernel_rfl)) rfl ?_
    exact ⟨_, rfl, Kd.S_mono (Kd.S_far (p := ⟨w.heap.size + 1 + 1, 0, none⟩) HS6.out (fun k hk => by show k ≠ w.heap.size + 1 + 1; omega) _) (fun _ _ => trivial), below_set HB6.out (by omega)⟩
   ·rw [if_neg hz] at HK
    have hzb : (rd l1 0 == 0) = false := by simpa using hz
    have hzn : (rd l1 0 != 0) = true := by simpa using hz
    simp only [Option.some.injEq, Prod.mk.injEq] at HK
    obtain ⟨rfl, rfl⟩ := HK
    go_wp2_with fail
    refine bodyPost_ret (results_ct rfl _ _ (w.heap.size + 1 + 1) 35 #[.slice none 0 0] (0, 0) _ rfl (blk_set BR2.out 0 _) Try.underlying35 rfl (by kernel_rfl)) rfl ?_
    exact ⟨_, rfl, Kd.S_nil _ _ _ _ _, below_set HB2.out (by omega)⟩


end Go.Proofs.Ytefkbmhkhpekjaa.PB

namespace Go.Proofs.Ytefkbmhkhpekjaa.PB
open Go.RowKit Go.Proofs.YtefkbmhkhpekjaaW.PrintWords Go.Proofs.YtefkbmhkhpekjaaW.PrintLast Go.Proofs.YtefkbmhkhpekjaaW.PrintMore
attribute [local go_sem] max2_int min2_int max_two min_two max_three min_three max_four min_four   -- for this text's walks alone
open Go.Proofs.YtefkbmhkhpekjaaMine
set_option linter.unusedVariables false
set_option linter.unusedSimpArgs false

theorem z53_1 {p : Prop} (h : p := by first | (with_reducible assumption) | assumption) : p := h
theorem z53_2 {p : Prop} (h : p := by repeat (first | (with_reducible first | exact HB.out | apply below_alloc | apply pw_below_drewN | apply below_drew1) | exact HB.out)) : p := h
/-! ### laws_lpBack: function 53 -/
def laws_lpBack.l0 : Nat → List Int → List Int → Int → Option (List Int)
  | 0, _, _, _ => none
  | k + 1, x0, x3, x4 => if x4 < (x0.length : Int) then (if 0 ≤ x4 then (if 0 ≤ (rd x0 x4) then (if (rd x0 x4) < (x3.length : Int) then (laws_lpBack.l0 k x0 (x3.set ((rd x0 x4) : Int).toNat x4) (wrap64 (x4 + 1))) else (none)) else (none)) else (none)) else (some x3)
def laws_lpBack.f (k : Nat) (l0 : List Int) : Option (List Int) := if 0 ≤ (l0.length : Int) then (if ((l0.length : Int) : Int).toNat ≤ 35184372088832 then (laws_lpBack.l0 k l0 (List.replicate ((l0.length : Int) : Int).toNat 0) 0) else (none)) else (none)
theorem laws_lpBack.mono_l : ∀ k, (∀ y0 y1 y2, LeO (laws_lpBack.l0 k y0 y1 y2) (laws_lpBack.l0 (k + 1) y0 y1 y2))
  | 0 => fun _ _ _ r h => by simp [laws_lpBack.l0] at h
  | k + 1 => by
    have ih0 := laws_lpBack.mono_l k
    · intro y0 y1 y2
      unfold laws_lpBack.l0
      repeat' first
      | (with_reducible exact ih0 _ _ _)
      | (with_reducible exact LeO.refl _)
      | (with_reducible exact LeO.none _)
      | (with_reducible refine LeO.ite ?_ ?_)
      | (with_reducible refine LeO.bind ?_ (fun _ => ?_))
      | exact ih0 _ _ _
      | exact LeO.none _
      | refine LeO.ite ?_ ?_
      | refine LeO.bind ?_ (fun _ => ?_)
theorem laws_lpBack.mono : ∀ a0 k, LeO (laws_lpBack.f k a0) (laws_lpBack.f (k + 1) a0) := by
  intro a0 k
  have ih0 := laws_lpBack.mono_l k
  unfold laws_lpBack.f
  repeat' first
      | (with_reducible exact ih0 _ _ _)
      | (with_reducible exact LeO.refl _)
      | (with_reducible exact LeO.none _)
      | (with_reducible refine LeO.ite ?_ ?_)
      | (with_reducible refine LeO.bind ?_ (fun _ => ?_))
      | exact ih0 _ _ _
      | exact LeO.none _
      | refine LeO.ite ?_ ?_
      | refine LeO.bind ?_ (fun _ => ?_)
set_option maxHeartbeats 8000000 in
set_option maxRecDepth 100000 in
theorem laws_lpBack.calls (k : Nat) (A0 : Option Addr) (c0 : Nat) (l0 : List Int) (r : List Int) (w : World) (hr0 : Kd.C (Kd.int .i64) w A0 l0.length l0) (hc0 : l0.length ≤ c0) (h : laws_lpBack.f k l0 = some r) :
  Calls Try.prog 53 #[.slice A0 l0.length c0] w fun e w' => ∃ v0_ : Value, e = .returned (v0_) ∧ Kd.R (Kd.int .i64) 3 w' w.heap.size (fun _ => True) v0_ r ∧ Below w.heap.size w w' := by
 have HR0 := am_ hr0
 have HC0 := am_ hc0
 clear hr0 hc0
 have HB := am_ (Below.refl w.heap.size w)
 have H : (if 0 ≤ (l0.length : Int) then (if ((l0.length : Int) : Int).toNat ≤ 35184372088832 then (laws_lpBack.l0 k l0 (List.replicate ((l0.length : Int) : Int).toNat 0) 0) else (none)) else (none)) = some r := h
 clear h
 by_cases c2 : 0 ≤ (l0.length : Int)
 ·rw [if_pos c2] at H
  have c2b0 := eq_true c2
  have c2b1 : decide (0 ≤ (l0.length : Int)) = true := decide_eq_true c2
  clear c2
  by_cases c3 : ((l0.length : Int) : Int).toNat ≤ 35184372088832
  ·rw [if_pos c3] at H
   have c3b0 := eq_true c3
   have c3b1 : decide (((l0.length : Int) : Int).toNat ≤ 35184372088832) = true := decide_eq_true c3
   clear c3
   obtain ⟨y1115, hy1115⟩ : ∃ y_ : List Int, y_ = (List.replicate ((l0.length : Int) : Int).toNat 0) := ⟨_, rfl⟩
   replace H : (laws_lpBack.l0 k l0 y1115 0) = some r := by first | (rw [hy1115]; with_reducible exact H) | (have H2_ := (Option.bind_some _ _).symm.trans H; rw [hy1115]; with_reducible exact H2_) | (have H2_ := (Option.bind_some _ _).symm.trans H; with_reducible exact H2_) | with_reducible exact H | (rw [hy1115]; exact H) | exact H
   have Ny1115 := am_ hy1115
   clear hy1115
   have H' := am_ H
   clear H
   go_enter Try.func53, Try.ntmps53
   go_wp2_with (first | ((with_reducible refine gate_dst (N := 7) rfl ?_); refine Kd.R_make (Kd.int .i64) _ 3 rfl (N := 7) rfl 22 _ _ rfl (l0.length : Int) rfl rfl Try.underlying22 (.int .i64 0) 8 info3 rfl (by decide) (by omega) 0 (ok := fun _ => True) (okp := fun _ => True) rfl (fun _ hk => hk) trivial (of_decide_eq_true z53_1) (Nat.le_trans (Nat.mul_le_mul_right _ (of_decide_eq_true z53_1 : (l0.length : Int).toNat ≤ 35184372088832)) (by omega)) (Below.refl _ _) (Nat.le_refl _) ?_; intro v1116 w4 ho5 hb hg_ hnew_; clear hg_ hnew_; (first | rw [← Ny1115.out] at ho5 | (simp only [Int.reduceToNat] at ho5; rw [← Ny1115.out] at ho5)); have n0_ := am_ (Kd.R_lower ho5 (below_size z53_2)); have n1_ := am_ (below_step z53_2 hb); clear HB; have HO1117 := n0_; have HB := n1_; clear n0_ n1_; clear hb ho5))
   go_loopg [4] k (fun kq v4 w' => ∃ (x3_1 : List Int) (x4_1 : Int), v4 = .int .i64 x4_1 ∧ Aside0 (laws_lpBack.l0 kq l0 x3_1 x4_1 = some r) ∧ Aside0 (kq ≤ k) ∧ Aside0 (Kd.R (Kd.int .i64) 3 w' w.heap.size (fun _ => True) v1116 x3_1) ∧ Aside0 (Below w.heap.size w w'))
   case atStart => exact ⟨(y1115), (0), (by first | rfl | (simp; done) | (simp [*]; done)), H', ⟨Nat.le_refl _⟩, ⟨ru HO1117.out⟩, ⟨z53_2⟩⟩
   case round =>
    clear H'
    obtain ⟨x3_1, x4_1, rfl, HA, HK1, HO_3, HB⟩ := hrel
    cases gk with
    | zero => exact absurd HA.out (by simp [laws_lpBack.l0])
    | succ k1 =>
     have H := HA.out
     clear HA
     simp only [laws_lpBack.l0] at H
     by_cases c6 : x4_1 < (l0.length : Int)
     ·rw [if_pos c6] at H
      have c6b0 : decide (x4_1 < (l0.length : Int)) = true := decide_eq_true c6
      clear c6
      by_cases c7 : 0 ≤ x4_1
      ·rw [if_pos c7] at H
       have c7b0 : decide (0 ≤ x4_1) = true := decide_eq_true c7
       clear c7
       by_cases c8 : 0 ≤ (rd l0 x4_1)
       ·rw [if_pos c8] at H
        have c8b0 : decide (0 ≤ (rd l0 x4_1)) = true := decide_eq_true c8
        clear c8
        by_cases c9 : (rd l0 x4_1) < (x3_1.length : Int)
        ·rw [if_pos c9] at H
         have c9b0 : decide ((rd l0 x4_1) < (x3_1.length : Int)) = true := decide_eq_true c9
         clear c9
         obtain ⟨y1119, hy1119⟩ : ∃ y_ : List Int, y_ = (x3_1.set ((rd l0 x4_1) : Int).toNat x4_1) := ⟨_, rfl⟩
         replace H : (laws_lpBack.l0 k1 l0 y1119 (wrap64 (x4_1 + 1))) = some r := by first | (rw [hy1119]; with_reducible exact H) | (have H2_ := (Option.bind_some _ _).symm.trans H; rw [hy1119]; with_reducible exact H2_) | (have H2_ := (Option.bind_some _ _).symm.trans H; with_reducible exact H2_) | with_reducible exact H | (rw [hy1119]; exact H) | exact H
         have Ny1119 := am_ hy1119
         clear hy1119
         have H' := am_ H
         clear H
         have p1118 : 0 ≤ (x4_1 : Int) := of_decide_eq_true z53_1
         have q1118 : x4_1 < (l0.length : Int) := of_decide_eq_true z53_1
         obtain ⟨ad1118, e1118, hx1118_0⟩ := Kd.at_int HR0.out x4_1 p1118 q1118
         cases e1118
         replace hx1118_0 := (HB.out.cell (World.block_lt_of_cell? w _ hx1118_0)).trans hx1118_0
         replace p1118 := eq_true p1118
         replace q1118 := eq_true q1118
         have p10 : 0 ≤ ((rd l0 x4_1) : Int) := of_decide_eq_true z53_1
         have q10 : ((rd l0 x4_1) : Int) < ((x3_1.length : Int) : Int) := of_decide_eq_true z53_1
         obtain ⟨go10, co10, eo10, gb10, gl10, cl10, HG10⟩ := Kd.R_form HO_3.out (by omega)
         (first | cases eo10 | (injection eo10 with ea_ en_ ec_; (first | subst ea_ | (injection ea_ with ea_; subst ea_)); subst ec_; clear en_))
         have GB10 := am_ gb10
         have GG10 := am_ HG10
         clear gb10 gl10 HG10
         obtain ⟨hx10_0, hf10_0⟩ := Kd.R_celln 0 HO_3.out ((rd l0 x4_1) : Int) p10 q10
         replace p10 := eq_true p10
         replace q10 := eq_true q10
         have HP11 := Kd.R_putg HO_3.out ((rd l0 x4_1) : Int) x4_1
         go_wp2_with (first | ((with_reducible refine gate_store (t := 3) (p := 20) rfl ?_); refine store_event (t := 3) (p := 20) (v := ?vo_w12) (w1 := (wr.setCell ⟨go10, ((rd l0 x4_1) : Int).toNat, none⟩ (.int .i64 x4_1))) ?hg ?ho ?hn ?hr ?_; (case ho => rfl); (case hg => rfl); (case hn => rfl); (case hr => first | (go_simp; done) | (go_simp; rfl)); intro w12 hw; have hg : wr.grownBy w12 (some go10) := (by rw [hw]; exact HP11.2); have hp_ : Kd.R (Kd.int .i64) 3 w12 w.heap.size (fun _ => True) (.slice (some ⟨go10, 0, none⟩) x3_1.length co10) y1119 := (by rw [hw, Ny1119.out]; exact HP11.1); clear HP11; have n0_ := am_ (hp_); have n1_ := am_ (by rw [hw]; exact below_set (HB.out) GB10.out : Below w.heap.size w w12); clear HO_3 HB; have HO_3 := n0_; have HB := n1_; clear n0_ n1_; clear hg hw hp_))
         go_roundg k1
         case measure => have := HK1.out; omega
         case rel => exact ⟨(y1119), (wrap64 (x4_1 + 1)), (by first | rfl | (simp; done) | (simp [*]; done)), H', ⟨by have := HK1.out; omega⟩, ⟨ru HO_3.out⟩, ⟨z53_2⟩⟩
        ·rw [if_neg c9] at H
         exact absurd H (by simp)
       ·rw [if_neg c8] at H
        exact absurd H (by simp)
      ·rw [if_neg c7] at H
       exact absurd H (by simp)
     ·rw [if_neg c6] at H
      have c6b0 : decide (x4_1 < (l0.length : Int)) = false := decide_eq_false c6
      clear c6
      obtain rfl := Option.some.inj H
      go_wp2
      go_ret
      exact ⟨_, by first | rfl | (simp [errW_none, errW_some] <;> rfl) | (simp [*, errW_none, errW_some] <;> rfl), ru HO_3.out, z53_2⟩
  ·rw [if_neg c3] at H
   exact absurd H (by simp)
 ·rw [if_neg c2] at H
  exact absurd H (by simp)

end Go.Proofs.Ytefkbmhkhpekjaa.PB

namespace Go.Proofs.Ytefkbmhkhpekjaa.PB
open Go.RowKit Go.Proofs.YtefkbmhkhpekjaaW.PrintWords Go.Proofs.YtefkbmhkhpekjaaW.PrintLast Go.Proofs.YtefkbmhkhpekjaaW.PrintMore
attribute [local go_sem] max2_int min2_int max_two min_two max_three min_three max_four min_four   -- for this text's walks alone
open Go.Proofs.YtefkbmhkhpekjaaMine
set_option linter.unusedVariables false
set_option linter.unusedSimpArgs false

/-! ### laws_FnTurnVals: function 13 -/
def laws_FnTurnVals.T8 : Bool × List (List Nat × List Nat) := (true, [([], []), ([], []), ([1], [1]), ([0, 2, 2], [0, 2]), ([3], [3]), ([4], [4]), ([4], [4]), ([], []), ([7, 5, 3, 0, 1, 2, 3, 4, 5, 7], [5, 7]), ([6, 8, 0, 1, 2, 3, 4, 5, 6, 7, 8], [6])])
def laws_FnTurnVals.B8 : List Nat := [0, 0, 2, 7, 15, 31, 31, 0, 191, 511]
theorem laws_FnTurnVals.tab8 : rtab .any (opsOf Try.f13 8) = laws_FnTurnVals.T8 := by kernel_rfl
theorem laws_FnTurnVals.bits8 : waitsOk laws_FnTurnVals.T8.2 laws_FnTurnVals.B8 = true := by kernel_rfl
def laws_FnTurnVals.Facts (k : Nat) (l0 : List Int) (p want : List (List S85)) (row rb : List Int) (told : Bool) (m : Int) : Prop := spec_DrawTurnVals.f k l0 = some (p, row) ∧ spec_TurnVals.f k p row = some (want, told) ∧ impl_TurnVals.f k p row = some (want, told) ∧ laws_lpProg.f k want want = some true ∧ (told = true → laws_lpBack.f k row = some rb ∧ impl_TurnVals.f k want rb = some (p, true) ∧ laws_lpProg.f k p p = some true ∧ impl_ProgOk.f k want = some true)
set_option maxRecDepth 100000 in
set_option maxHeartbeats 8000000 in
theorem laws_FnTurnVals.calls (k : Nat) (A0 : Option Addr) (c0 : Nat) (l0 : List Int) (w : World) (p want : List (List S85)) (row rb : List Int) (told : Bool) (m : Int) (hr0 : Kd.C (Kd.int .u8) w A0 l0.length l0) (hc0 : l0.length ≤ c0) (h : (l0.length : Int) > 1048576 ∨ laws_FnTurnVals.Facts k l0 p want row rb told m) :
  Calls Try.prog 13 #[.slice A0 l0.length c0] w fun e w' => e = .returned (.bool true) ∧ Below w.heap.size w w' := by
 have C0 := am_ hr0
 have L0 := am_ hc0
 clear hr0 hc0
 by_cases hl : (l0.length : Int) > 1048576
 ·have hlb : decide (1048576 < (l0.length : Int)) = true := decide_eq_true hl
  clear h
  go_enter Try.func13, Try.ntmps13
  go_wp2_with fail
  refine bodyPost_ret (results_tmp rfl _ _ _) rfl ?_
  exact ⟨rfl, Below.refl _ _⟩
 have hlb : decide (1048576 < (l0.length : Int)) = false := decide_eq_false hl
 replace h := h.resolve_left hl
 unfold laws_FnTurnVals.Facts at h
 obtain ⟨h1, h2, h3, h4, h5⟩ := h
 have F1 := am_ h1
 have F2 := am_ h2
 have F3 := am_ h3
 have F4 := am_ h4
 have F5 := am_ h5
 clear h1 h2 h3 h4 h5
 go_enter Try.func13, Try.ntmps13
 go_wp2_with (go_at_call 50; refine park ?_)
 refine ⟨?_⟩
 refine (spec_DrawTurnVals.calls k _ _ l0 p row _ C0.out L0.out F1.out).mono ?_
 rintro e w1 ⟨vp, vr, rfl, hN, hR, hb⟩
 obtain ⟨Ap, cp, rfl⟩ := Kd.N_slice hN
 obtain ⟨Ar, cr, rfl⟩ := Kd.R_slice hR
 have CP1 := am_ (Kd.N_reads' hN).2.2
 have LP := am_ (Kd.N_reads' hN).2.1
 have CR1 := am_ (Kd.R_reads' hR).2.2
 have LR := am_ (Kd.R_reads' hR).2.1
 have HB1 := am_ hb
 clear hN hR hb
 have hc3 : (w1.alloc (Obj.cells #[Value.slice Ap p.length cp] 35)).cell? ⟨w1.heap.size, 0, none⟩ = some (.slice Ap p.length cp) := (blk_cell (heap_alloc_new w1 _) 0).trans rfl
 go_wp2_with (go_at_call 51; refine park ?_)
 clear hc3
 refine ⟨?_⟩
 have BP1 := am_ (heap_alloc_new w1 (Obj.cells #[Value.slice Ap p.length cp] 35))
 have CP1a := am_ (Kd.C_alloc CP1.out (Obj.cells #[Value.slice Ap p.length cp] 35))
 have CR1a := am_ (Kd.C_alloc CR1.out (Obj.cells #[Value.slice Ap p.length cp] 35))
 have HB1a := am_ (below_alloc HB1.out (Obj.cells #[Value.slice Ap p.length cp] 35))
 clear CP1 CR1 HB1
 refine (spec_TurnVals.calls k _ _ p _ _ row want told _ CP1a.out LP.out CR1a.out LR.out F2.out).mono ?_
 rintro e w2 ⟨vw, rfl, hS, hb⟩
 obtain ⟨Aw, cw, rfl⟩ := Kd.S_slice hS
 have CW2 := am_ (Kd.S_reads' hS).2.2
 have LW := am_ (Kd.S_reads' hS).2.1
 have CP2 := am_ (Kd.C_below CP1a.out hb)
 have CR2 := am_ (Kd.C_below CR1a.out hb)
 have BP2 := am_ (blk_below BP1.out hb)
 have HB2 := am_ (below_then HB1a.out HB1a.out.size hb)
 generalize w1.heap.size = gp at *
 clear hS hb CP1a CR1a HB1a BP1
 have hc3 : (w2.alloc (Obj.cells #[Value.slice Aw want.length cw] 35)).cell? ⟨gp, 0, none⟩ = some (.slice Ap p.length cp) := (blk_cell (blk_alloc BP2.out _) 0).trans rfl
 go_wp2_with (go_at_call 52; refine park ?_)
 clear hc3
 refine ⟨?_⟩
 have BW2 := am_ (heap_alloc_new w2 (Obj.cells #[Value.slice Aw want.length cw] 35))
 have BP2a := am_ (blk_alloc BP2.out (Obj.cells #[Value.slice Aw want.length cw] 35))
 have CP2a := am_ (Kd.C_alloc CP2.out (Obj.cells #[Value.slice Aw want.length cw] 35))
 have CR2a := am_ (Kd.C_alloc CR2.out (Obj.cells #[Value.slice Aw want.length cw] 35))
 have CW2a := am_ (Kd.C_alloc CW2.out (Obj.cells #[Value.slice Aw want.length cw] 35))
 have HB2a := am_ (below_alloc HB2.out (Obj.cells #[Value.slice Aw want.length cw] 35))
 clear CP2 CR2 CW2 BP2 HB2
 refine (impl_TurnVals.calls k _ _ p _ _ row want told _ CP2a.out LP.out CR2a.out LR.out F3.out).mono ?_
 rintro e w3 ⟨vq, rfl, hS, hb⟩
 obtain ⟨Aq, cq, rfl⟩ := Kd.S_slice hS
 have CQ3 := am_ (Kd.S_reads' hS).2.2
 have LQ := am_ (Kd.S_reads' hS).2.1
 have CP3 := am_ (Kd.C_below CP2a.out hb)
 have CR3 := am_ (Kd.C_below CR2a.out hb)
 have CW3 := am_ (Kd.C_below CW2a.out hb)
 have BP3 := am_ (blk_below BP2a.out hb)
 have BW3 := am_ (blk_below BW2.out hb)
 have HB3 := am_ (below_then HB2a.out HB2a.out.size hb)
 generalize w2.heap.size = gw at *
 clear hS hb CP2a CR2a CW2a BP2a BW2 HB2a
 have CP4 := am_ (Kd.C_alloc CP3.out (Obj.cells #[Value.slice Aq want.length cq] 35))
 have CR4 := am_ (Kd.C_alloc CR3.out (Obj.cells #[Value.slice Aq want.length cq] 35))
 have CW4 := am_ (Kd.C_alloc CW3.out (Obj.cells #[Value.slice Aq want.length cq] 35))
 have CQ4 := am_ (Kd.C_alloc CQ3.out (Obj.cells #[Value.slice Aq want.length cq] 35))
 have BP4 := am_ (blk_alloc BP3.out (Obj.cells #[Value.slice Aq want.length cq] 35))
 have BW4 := am_ (blk_alloc BW3.out (Obj.cells #[Value.slice Aq want.length cq] 35))
 have BQ4 := am_ (heap_alloc_new w3 (Obj.cells #[Value.slice Aq want.length cq] 35))
 have HB4 := am_ (below_alloc HB3.out (Obj.cells #[Value.slice Aq want.length cq] 35))
 clear CP3 CR3 CW3 CQ3 BP3 BW3 HB3
 have hcw : (w3.alloc (Obj.cells #[Value.slice Aq want.length cq] 35)).cell? ⟨gw, 0, none⟩ = some (.slice Aw want.length cw) := (blk_cell BW4.out 0).trans rfl
 have hcq : (w3.alloc (Obj.cells #[Value.slice Aq want.length cq] 35)).cell? ⟨w3.heap.size, 0, none⟩ = some (.slice Aq want.length cq) := (blk_cell BQ4.out 0).trans rfl
 cases told
 ·go_wp2_with (go_at_call 30; refine park ?_)
  refine ⟨?_⟩
  clear hcw hcq
  refine (laws_lpProg.calls k _ _ want _ _ want true _ CQ4.out LQ.out CW4.out LW.out F4.out).mono ?_
  rintro e w5 ⟨rfl, hb⟩
  have CQ5 := am_ (Kd.C_below CQ4.out hb)
  have CW5 := am_ (Kd.C_below CW4.out hb)
  have hcw : w5.cell? ⟨gw, 0, none⟩ = some (.slice Aw want.length cw) := (blk_cell (blk_below BW4.out hb) 0).trans rfl
  have hcq : w5.cell? ⟨w3.heap.size, 0, none⟩ = some (.slice Aq want.length cq) := (blk_cell (blk_below BQ4.out hb) 0).trans rfl
  have HB5 := am_ (below_then HB4.out HB4.out.size hb)
  clear hb
  go_wp2_with (go_at_call 30; refine park ?_)
  refine ⟨?_⟩
  refine (laws_lpProg.calls k _ _ want _ _ want true _ CQ5.out LQ.out CW5.out LW.out F4.out).mono ?_
  rintro e w6 ⟨rfl, hb⟩
  have HB6 := am_ (below_then HB5.out HB5.out.size hb)
  clear hb
  go_wp2_with fail
  refine bodyPost_ret (results_tmp rfl _ _ _) rfl ?_
  exact ⟨rfl, HB6.out⟩
 ·have F6 := am_ (F5.out rfl)
  clear F5
  go_wp2_with (go_at_call 30; refine park ?_)
  refine ⟨?_⟩
  clear hcw hcq
  refine (laws_lpProg.calls k _ _ want _ _ want true _ CQ4.out LQ.out CW4.out LW.out F4.out).mono ?_
  rintro e w5 ⟨rfl, hb⟩
  have CP5 := am_ (Kd.C_below CP4.out hb)
  have CR5 := am_ (Kd.C_below CR4.out hb)
  have CQ5 := am_ (Kd.C_below CQ4.out hb)
  have BP5 := am_ (blk_below BP4.out hb)
  have BQ5 := am_ (blk_below BQ4.out hb)
  have HB5 := am_ (below_then HB4.out HB4.out.size hb)
  generalize w3.heap.size = gq at *
  clear hb CP4 CR4 CQ4 CW4 BP4 BW4 BQ4 HB4
  go_wp2_with fail
  have CP6 := am_ (Kd.C_drew CP5.out)
  have CR6 := am_ (Kd.C_drew CR5.out)
  have CQ6 := am_ (Kd.C_drew CQ5.out)
  have BP6 := am_ (blk_drew BP5.out)
  have BQ6 := am_ (blk_drew BQ5.out)
  have HB6 := am_ (below_drew HB5.out)
  clear CP5 CR5 CQ5 BP5 BQ5 HB5
  refine start_ (n := 10) (S := fun w' => w'.cell? ⟨gq, 0, none⟩ = some (.slice Aq want.length cq)) (ds := []) #[false, false, false, false, false, false, false, false, false, false] (by kernel_rfl) rfl rfl ((blk_cell BQ6.out 0).trans rfl) (fun hHeld => ?_)
  refine with_tabW laws_FnTurnVals.tab8 laws_FnTurnVals.bits8 (fun HT_ HW_ => ?_)
  generalize w5.drew = wq at CP6 CR6 CQ6 BP6 BQ6 HB6 hHeld ⊢
  refine pure_ (i := 1) (N := some 54) (v := ?_) (a' := ?_) #[false, true, false, false, false, false, false, false, false, false] rfl rfl (any_of HT_.out (by kernel_rfl)) (fun _ _ _ h => h) (Or.inl ⟨by rfl, ?_⟩) ?_ ?_
  rotate_left
  ·intro w'
   go_simp
   with_reducible rfl
  rotate_left
  ·simp only [Act.put, List.setIfInBounds_toArray, List.set_cons_zero, List.set_cons_succ, i64_w, i32_w]
   rfl
  refine take_ (i := 0) (N := some 53) (v := ?_) (a' := ?_) #[true, true, false, false, false, false, false, false, false, false] rfl rfl (take_ofW HT_.out HW_.out (by kernel_rfl)) (fun _ _ _ h => h) (Or.inl ⟨by rfl, ?_⟩) hHeld ?_ ?_
  rotate_left
  ·intro w' s0
   have s1 := s0
   go_simp
   with_reducible rfl
  rotate_left
  ·simp only [Act.put, List.setIfInBounds_toArray, List.set_cons_zero, List.set_cons_succ, i64_w, i32_w]
   rfl
  refine join_ (σ := Value × Value × Nat) 2 #[true, true, true, true, true, true, true, true, false, false] (fun s_ => [(55, s_.1), (56, .tuple #[.agg #[s_.2.1], .bool true]), (9, .pointer (some ⟨s_.2.2, 0, none⟩)), (52, .tuple #[.agg #[s_.2.1], .bool true]), (57, .agg #[s_.2.1]), (58, .bool true)]) (fun s_ w' => (w'.cell? ⟨gq, 0, none⟩ = some (.slice Aq want.length cq)) ∧ (∃ A c, s_.2.1 = .slice A p.length c ∧ p.length ≤ c ∧ Kd.S (Kd.slice 85 k85) 82 w' wq.heap.size (fun k => k ≠ s_.2.2) (.slice A p.length c) p) ∧ Below wq.heap.size wq w' ∧ wq.heap.size ≤ s_.2.2 ∧ w'.heap[s_.2.2]? = some (Obj.cells #[Value.slice none 0 0] 35)) ?_ ?_
  rotate_left
  ·intro hCont
   refine two_ (i := 2) (j := 7) (Ni := some 55) (Nj := some 9) #[true, true, true, false, false, false, false, false, false, false] #[true, true, false, false, false, false, false, true, false, false] rfl rfl rfl rfl (two_of HT_.out (by kernel_rfl)) (by decide) (by decide) (fun K hK => ?_) (fun K hK => ?_)
   ·refine goes_ Try.func53 (by kernel_rfl) rfl #[.slice Ar row.length cr] (by rfl) rfl rfl (by (try simp only [List.map_toArray, List.map_cons, List.map_nil]); first | done | rfl) ?_
    with_reducible refine (laws_lpBack.calls k _ _ row rb _ CR6.out LR.out F6.out.1).mono ?_
    rintro e w6 ⟨vb, rfl, hR, hb⟩
    refine ⟨_, rfl, ?_⟩
    obtain ⟨Ab, cb, rfl⟩ := Kd.R_slice hR
    have CB := am_ (Kd.R_reads' hR).2.2
    have LB := am_ (Kd.R_reads' hR).2.1
    have Xw6 := am_ hb
    refine hK.out _ _ ((blk_cell (blk_below BQ6.out Xw6.out) 0).trans rfl) (fun hHeld => ?_)
    clear hK K
    refine norm_ (a' := ?_) ?_ ?_
    rotate_left
    ·show Act.put _ (some 55) _ = _
     simp only [Act.put, List.setIfInBounds_toArray, List.set_cons_zero, List.set_cons_succ, i64_w, i32_w]
     rfl
    refine two_ (i := 3) (j := 7) (Ni := some 56) (Nj := some 9) #[true, true, true, true, false, false, false, false, false, false] #[true, true, true, false, false, false, false, true, false, false] rfl rfl rfl rfl (two_of HT_.out (by kernel_rfl)) (by decide) (by decide) (fun K hK => ?_) (fun K hK => ?_)
    ·refine goes_ Try.func52 (by kernel_rfl) rfl #[.agg #[.slice Aq want.length cq], .slice Ab rb.length cb] (by rfl) rfl rfl (by (try simp only [List.map_toArray, List.map_cons, List.map_nil]); first | done | rfl) ?_
     with_reducible refine (impl_TurnVals.calls k _ _ want _ _ rb p true _ (Kd.C_below CQ6.out Xw6.out) LQ.out CB.out LB.out F6.out.2.1).mono ?_
     rintro e w7 ⟨vx, rfl, hS, hb⟩
     refine ⟨_, rfl, ?_⟩
     obtain ⟨Ax, cx, rfl⟩ := Kd.S_slice hS
     have SX := am_ hS
     have LX := am_ (Kd.S_reads' hS).2.1
     have Xw7 := am_ (below_then Xw6.out Xw6.out.size hb)
     refine hK.out _ _ ((blk_cell (blk_below BQ6.out Xw7.out) 0).trans rfl) (fun hHeld => ?_)
     clear hK K
     refine norm_ (a' := ?_) ?_ ?_
     rotate_left
     ·show Act.put _ (some 56) _ = _
      simp only [Act.put, List.setIfInBounds_toArray, List.set_cons_zero, List.set_cons_succ, i64_w, i32_w]
      rfl
     refine pure_ (i := 4) (N := some 52) (v := ?_) (a' := ?_) #[true, true, true, true, true, false, false, false, false, false] rfl rfl (any_of HT_.out (by kernel_rfl)) (fun _ _ _ h => h) (Or.inl ⟨by rfl, ?_⟩) ?_ ?_
     rotate_left
     ·intro w'
      go_simp
      with_reducible rfl
     rotate_left
     ·simp only [Act.put, List.setIfInBounds_toArray, List.set_cons_zero, List.set_cons_succ, i64_w, i32_w]
      rfl
     refine pure_ (i := 5) (N := some 57) (v := ?_) (a' := ?_) #[true, true, true, true, true, true, false, false, false, false] rfl rfl (any_of HT_.out (by kernel_rfl)) (fun _ _ _ h => h) (Or.inl ⟨by rfl, ?_⟩) ?_ ?_
     rotate_left
     ·intro w'
      go_simp
      with_reducible rfl
     rotate_left
     ·simp only [Act.put, List.setIfInBounds_toArray, List.set_cons_zero, List.set_cons_succ, i64_w, i32_w]
      rfl
     refine pure_ (i := 6) (N := some 58) (v := ?_) (a' := ?_) #[true, true, true, true, true, true, true, false, false, false] rfl rfl (any_of HT_.out (by kernel_rfl)) (fun _ _ _ h => h) (Or.inl ⟨by rfl, ?_⟩) ?_ ?_
     rotate_left
     ·intro w'
      go_simp
      with_reducible rfl
     rotate_left
     ·simp only [Act.put, List.setIfInBounds_toArray, List.set_cons_zero, List.set_cons_succ, i64_w, i32_w]
      rfl
     refine one_ (i := 7) (N := some 9) #[true, true, true, true, true, true, true, true, false, false] rfl rfl (one_of HT_.out (by kernel_rfl)) (by decide) (fun K hK => ?_)
     refine box_step (by rfl) (N := 9) rfl (cs := #[Value.slice none 0 0]) (t := 35) ?hr ?_
     case hr => first | (go_simp; done) | (go_simp; rfl)
     intro gx hgx w8 hbx hb
     have GX := am_ (show wq.heap.size ≤ gx from by rw [hgx]; exact Xw7.out.size)
     have BX := am_ hbx
     have Xw8 := am_ (below_then Xw7.out Xw7.out.size hb)
     refine hK.out _ _ ((blk_cell (blk_below BQ6.out Xw8.out) 0).trans rfl) (fun hHeld => ?_)
     clear hK K
     refine norm_ (a' := ?_) ?_ ?_
     rotate_left
     ·show Act.put _ (some 9) _ = _
      simp only [Act.put, List.setIfInBounds_toArray, List.set_cons_zero, List.set_cons_succ, i64_w, i32_w]
      rfl
     exact hCont (Value.slice Ab rb.length cb, Value.slice Ax p.length cx, gx) w8 ⟨(blk_cell (blk_below BQ6.out Xw8.out) 0).trans rfl, ⟨Ax, cx, rfl, LX.out, Kd.S_lower (Kd.S_mono (Kd.S_below (Kd.S_bound SX.out) hb) (fun k hk => by have := hk.2.2.1; show k ≠ gx; omega)) Xw6.out.size⟩, Xw8.out, GX.out, hbx⟩
    ·refine box_step (by rfl) (N := 9) rfl (cs := #[Value.slice none 0 0]) (t := 35) ?hr ?_
     case hr => first | (go_simp; done) | (go_simp; rfl)
     intro gx hgx w7 hbx hb
     have GX := am_ (show wq.heap.size ≤ gx from by rw [hgx]; exact Xw6.out.size)
     have BX := am_ hbx
     have Xw7 := am_ (below_then Xw6.out Xw6.out.size hb)
     refine hK.out _ _ ((blk_cell (blk_below BQ6.out Xw7.out) 0).trans rfl) (fun hHeld => ?_)
     clear hK K
     refine norm_ (a' := ?_) ?_ ?_
     rotate_left
     ·show Act.put _ (some 9) _ = _
      simp only [Act.put, List.setIfInBounds_toArray, List.set_cons_zero, List.set_cons_succ, i64_w, i32_w]
      rfl
     refine one_ (i := 3) (N := some 56) #[true, true, true, true, false, false, false, true, false, false] rfl rfl (one_of HT_.out (by kernel_rfl)) (by decide) (fun K hK => ?_)
     refine goes_ Try.func52 (by kernel_rfl) rfl #[.agg #[.slice Aq want.length cq], .slice Ab rb.length cb] (by rfl) rfl rfl (by (try simp only [List.map_toArray, List.map_cons, List.map_nil]); first | done | rfl) ?_
     with_reducible refine (impl_TurnVals.calls k _ _ want _ _ rb p true _ (Kd.C_below CQ6.out Xw7.out) LQ.out (Kd.C_below CB.out hb) LB.out F6.out.2.1).mono ?_
     rintro e w8 ⟨vx, rfl, hS, hb2⟩
     refine ⟨_, rfl, ?_⟩
     obtain ⟨Ax, cx, rfl⟩ := Kd.S_slice hS
     have SX := am_ hS
     have LX := am_ (Kd.S_reads' hS).2.1
     have Xw8 := am_ (below_then Xw7.out Xw7.out.size hb2)
     refine hK.out _ _ ((blk_cell (blk_below BQ6.out Xw8.out) 0).trans rfl) (fun hHeld => ?_)
     clear hK K
     refine norm_ (a' := ?_) ?_ ?_
     rotate_left
     ·show Act.put _ (some 56) _ = _
      simp only [Act.put, List.setIfInBounds_toArray, List.set_cons_zero, List.set_cons_succ, i64_w, i32_w]
      rfl
     refine pure_ (i := 4) (N := some 52) (v := ?_) (a' := ?_) #[true, true, true, true, true, false, false, true, false, false] rfl rfl (any_of HT_.out (by kernel_rfl)) (fun _ _ _ h => h) (Or.inl ⟨by rfl, ?_⟩) ?_ ?_
     rotate_left
     ·intro w'
      go_simp
      with_reducible rfl
     rotate_left
     ·simp only [Act.put, List.setIfInBounds_toArray, List.set_cons_zero, List.set_cons_succ, i64_w, i32_w]
      rfl
     refine pure_ (i := 5) (N := some 57) (v := ?_) (a' := ?_) #[true, true, true, true, true, true, false, true, false, false] rfl rfl (any_of HT_.out (by kernel_rfl)) (fun _ _ _ h => h) (Or.inl ⟨by rfl, ?_⟩) ?_ ?_
     rotate_left
     ·intro w'
      go_simp
      with_reducible rfl
     rotate_left
     ·simp only [Act.put, List.setIfInBounds_toArray, List.set_cons_zero, List.set_cons_succ, i64_w, i32_w]
      rfl
     refine pure_ (i := 6) (N := some 58) (v := ?_) (a' := ?_) #[true, true, true, true, true, true, true, true, false, false] rfl rfl (any_of HT_.out (by kernel_rfl)) (fun _ _ _ h => h) (Or.inl ⟨by rfl, ?_⟩) ?_ ?_
     rotate_left
     ·intro w'
      go_simp
      with_reducible rfl
     rotate_left
     ·simp only [Act.put, List.setIfInBounds_toArray, List.set_cons_zero, List.set_cons_succ, i64_w, i32_w]
      rfl
     exact hCont (Value.slice Ab rb.length cb, Value.slice Ax p.length cx, gx) w8 ⟨(blk_cell (blk_below BQ6.out Xw8.out) 0).trans rfl, ⟨Ax, cx, rfl, LX.out, Kd.S_lower (Kd.S_mono (Kd.S_bound SX.out) (fun k hk => by have := hk.2.1; have := blk_lt BX.out; show k ≠ gx; omega)) Xw7.out.size⟩, Xw8.out, GX.out, (blk_below BX.out hb2)⟩
   ·refine box_step (by rfl) (N := 9) rfl (cs := #[Value.slice none 0 0]) (t := 35) ?hr ?_
    case hr => first | (go_simp; done) | (go_simp; rfl)
    intro gx hgx w6 hbx hb
    have GX := am_ (show wq.heap.size ≤ gx from by rw [hgx]; exact Nat.le_refl _)
    have BX := am_ hbx
    have Xw6 := am_ hb
    refine hK.out _ _ ((blk_cell (blk_below BQ6.out Xw6.out) 0).trans rfl) (fun hHeld => ?_)
    clear hK K
    refine norm_ (a' := ?_) ?_ ?_
    rotate_left
    ·show Act.put _ (some 9) _ = _
     simp only [Act.put, List.setIfInBounds_toArray, List.set_cons_zero, List.set_cons_succ, i64_w, i32_w]
     rfl
    refine one_ (i := 2) (N := some 55) #[true, true, true, false, false, false, false, true, false, false] rfl rfl (one_of HT_.out (by kernel_rfl)) (by decide) (fun K hK => ?_)
    refine goes_ Try.func53 (by kernel_rfl) rfl #[.slice Ar row.length cr] (by rfl) rfl rfl (by (try simp only [List.map_toArray, List.map_cons, List.map_nil]); first | done | rfl) ?_
    with_reducible refine (laws_lpBack.calls k _ _ row rb _ (Kd.C_below CR6.out Xw6.out) LR.out F6.out.1).mono ?_
    rintro e w7 ⟨vb, rfl, hR, hb2⟩
    refine ⟨_, rfl, ?_⟩
    obtain ⟨Ab, cb, rfl⟩ := Kd.R_slice hR
    have CB := am_ (Kd.R_reads' hR).2.2
    have LB := am_ (Kd.R_reads' hR).2.1
    have Xw7 := am_ (below_then Xw6.out Xw6.out.size hb2)
    refine hK.out _ _ ((blk_cell (blk_below BQ6.out Xw7.out) 0).trans rfl) (fun hHeld => ?_)
    clear hK K
    refine norm_ (a' := ?_) ?_ ?_
    rotate_left
    ·show Act.put _ (some 55) _ = _
     simp only [Act.put, List.setIfInBounds_toArray, List.set_cons_zero, List.set_cons_succ, i64_w, i32_w]
     rfl
    refine one_ (i := 3) (N := some 56) #[true, true, true, true, false, false, false, true, false, false] rfl rfl (one_of HT_.out (by kernel_rfl)) (by decide) (fun K hK => ?_)
    refine goes_ Try.func52 (by kernel_rfl) rfl #[.agg #[.slice Aq want.length cq], .slice Ab rb.length cb] (by rfl) rfl rfl (by (try simp only [List.map_toArray, List.map_cons, List.map_nil]); first | done | rfl) ?_
    with_reducible refine (impl_TurnVals.calls k _ _ want _ _ rb p true _ (Kd.C_below CQ6.out Xw7.out) LQ.out CB.out LB.out F6.out.2.1).mono ?_
    rintro e w8 ⟨vx, rfl, hS, hb3⟩
    refine ⟨_, rfl, ?_⟩
    obtain ⟨Ax, cx, rfl⟩ := Kd.S_slice hS
    have SX := am_ hS
    have LX := am_ (Kd.S_reads' hS).2.1
    have Xw8 := am_ (below_then Xw7.out Xw7.out.size hb3)
    refine hK.out _ _ ((blk_cell (blk_below BQ6.out Xw8.out) 0).trans rfl) (fun hHeld => ?_)
    clear hK K
    refine norm_ (a' := ?_) ?_ ?_
    rotate_left
    ·show Act.put _ (some 56) _ = _
     simp only [Act.put, List.setIfInBounds_toArray, List.set_cons_zero, List.set_cons_succ, i64_w, i32_w]
     rfl
    refine pure_ (i := 4) (N := some 52) (v := ?_) (a' := ?_) #[true, true, true, true, true, false, false, true, false, false] rfl rfl (any_of HT_.out (by kernel_rfl)) (fun _ _ _ h => h) (Or.inl ⟨by rfl, ?_⟩) ?_ ?_
    rotate_left
    ·intro w'
     go_simp
     with_reducible rfl
    rotate_left
    ·simp only [Act.put, List.setIfInBounds_toArray, List.set_cons_zero, List.set_cons_succ, i64_w, i32_w]
     rfl
    refine pure_ (i := 5) (N := some 57) (v := ?_) (a' := ?_) #[true, true, true, true, true, true, false, true, false, false] rfl rfl (any_of HT_.out (by kernel_rfl)) (fun _ _ _ h => h) (Or.inl ⟨by rfl, ?_⟩) ?_ ?_
    rotate_left
    ·intro w'
     go_simp
     with_reducible rfl
    rotate_left
    ·simp only [Act.put, List.setIfInBounds_toArray, List.set_cons_zero, List.set_cons_succ, i64_w, i32_w]
     rfl
    refine pure_ (i := 6) (N := some 58) (v := ?_) (a' := ?_) #[true, true, true, true, true, true, true, true, false, false] rfl rfl (any_of HT_.out (by kernel_rfl)) (fun _ _ _ h => h) (Or.inl ⟨by rfl, ?_⟩) ?_ ?_
    rotate_left
    ·intro w'
     go_simp
     with_reducible rfl
    rotate_left
    ·simp only [Act.put, List.setIfInBounds_toArray, List.set_cons_zero, List.set_cons_succ, i64_w, i32_w]
     rfl
    exact hCont (Value.slice Ab rb.length cb, Value.slice Ax p.length cx, gx) w8 ⟨(blk_cell (blk_below BQ6.out Xw8.out) 0).trans rfl, ⟨Ax, cx, rfl, LX.out, Kd.S_lower (Kd.S_mono (Kd.S_bound SX.out) (fun k hk => by have := hk.2.1; have := blk_lt BX.out; have := hb2.size; show k ≠ gx; omega)) Xw7.out.size⟩, Xw8.out, GX.out, (blk_below (blk_below BX.out hb2) hb3)⟩
  rintro ⟨vb, vx, gx⟩ w6 ⟨hHeld, ⟨Ax, cx, ex, lx, cxx⟩, hb, hgx, hbx⟩
  dsimp only at ex hgx hbx
  subst ex
  have SX7 := am_ cxx
  have CP8 := am_ (Kd.C_below CP6.out (below_set (g := gx) (j := 0) (v := .slice Ax p.length cx) hb hgx))
  have CQ8 := am_ (Kd.C_below CQ6.out (below_set (g := gx) (j := 0) (v := .slice Ax p.length cx) hb hgx))
  have LX := am_ lx
  have BX6 := am_ hbx
  have BP6' := am_ (blk_below BP6.out hb)
  have BQ6' := am_ (blk_below BQ6.out hb)
  have HB7 := am_ (below_then HB6.out HB6.out.size hb)
  have NP := am_ (show gp ≠ gx from by have := blk_lt BP6.out; omega)
  have NQ := am_ (show gq ≠ gx from by have := blk_lt BQ6.out; omega)
  have GW := am_ (show w.heap.size ≤ gx from by have := HB6.out.size; omega)
  clear cxx lx hbx hb hgx CP6 CQ6 CR6 BP6 BQ6 HB6
  refine norm_ (a' := ?_) ?_ ?_
  rotate_left
  ·simp only [putAll, Act.put, List.setIfInBounds_toArray, List.set_cons_zero, List.set_cons_succ]
   rfl
  refine one_ (i := 8) (N := none) #[true, true, true, true, true, true, true, true, true, false] rfl rfl (one_of HT_.out (by kernel_rfl)) (by decide) (fun K hK => ?_)
  have hs62 : w6.cell? ⟨gx, 0, none⟩ = some (.slice none 0 0) := (blk_cell BX6.out 0).trans rfl
  have hfs62 := blk_frozen BX6.out 0
  refine skip_ (w1 := ?_) (by rfl) rfl ?_ ?_
  rotate_left
  ·go_simp
   rfl
  have BX7 := am_ (blk_set BX6.out 0 (.slice Ax p.length cx))
  have BP7 := am_ (blk_far BP6'.out (p := ⟨gx, 0, none⟩) NP.out (.slice Ax p.length cx))
  have BQ7 := am_ (blk_far BQ6'.out (p := ⟨gx, 0, none⟩) NQ.out (.slice Ax p.length cx))
  have CX8 := am_ (Kd.S_reads' (Kd.S_far (p := ⟨gx, 0, none⟩) SX7.out (fun k hk => hk) (.slice Ax p.length cx))).2.2
  have HB8 := am_ (below_set (g := gx) (j := 0) (v := .slice Ax p.length cx) HB7.out GW.out)
  clear hs62 hfs62 SX7 BX6 BP6' BQ6' HB7
  refine hK.out _ _ ((blk_cell BQ7.out 0).trans rfl) (fun hHeld => ?_)
  clear hK K
  refine pure_ (i := 9) (N := some 10) (v := ?_) (a' := ?_) #[true, true, true, true, true, true, true, true, true, true] rfl rfl (any_of HT_.out (by kernel_rfl)) (fun _ _ _ h => h) (Or.inl ⟨by rfl, ?_⟩) ?_ ?_
  rotate_left
  ·intro w'
   go_simp
   with_reducible rfl
  rotate_left
  ·simp only [Act.put, List.setIfInBounds_toArray, List.set_cons_zero, List.set_cons_succ, i64_w, i32_w]
   rfl
  refine done_ (done_of HT_.out (by kernel_rfl)) ?_
  clear hHeld
  have hcx : (w6.setCell ⟨gx, 0, none⟩ (.slice Ax p.length cx)).cell? ⟨gx, 0, none⟩ = some (.slice Ax p.length cx) := (blk_cell BX7.out 0).trans rfl
  have hcp : (w6.setCell ⟨gx, 0, none⟩ (.slice Ax p.length cx)).cell? ⟨gp, 0, none⟩ = some (.slice Ap p.length cp) := (blk_cell BP7.out 0).trans rfl
  have hcq : (w6.setCell ⟨gx, 0, none⟩ (.slice Ax p.length cx)).cell? ⟨gq, 0, none⟩ = some (.slice Aq want.length cq) := (blk_cell BQ7.out 0).trans rfl
  generalize (w6.setCell ⟨gx, 0, none⟩ (.slice Ax p.length cx)) = wz at hcx hcp hcq CP8 CQ8 CX8 BP7 BQ7 BX7 HB8 ⊢
  go_wp2_with (go_at_call 30; refine park ?_)
  refine ⟨?_⟩
  refine (laws_lpProg.calls k _ _ p _ _ p true _ CX8.out LX.out CP8.out LP.out F6.out.2.2.1).mono ?_
  rintro e y1 ⟨rfl, hb1⟩
  have hcq1 : y1.cell? ⟨gq, 0, none⟩ = some (.slice Aq want.length cq) := (blk_cell (blk_below BQ7.out hb1) 0).trans rfl
  go_wp2_with (go_at_call 31; refine park ?_)
  refine ⟨?_⟩
  refine (impl_ProgOk.calls k _ _ want true _ (Kd.C_below CQ8.out hb1) LQ.out F6.out.2.2.2).mono ?_
  rintro e y2 ⟨rfl, hb⟩
  have hb2 := below_then hb1 hb1.size hb
  clear hb
  go_wp2_with fail
  refine bodyPost_ret (results_tmp rfl _ _ _) rfl ?_
  exact ⟨rfl, below_then HB8.out HB8.out.size hb2⟩
def laws_FnTurnVals.Pure : Prop := ∀ (l0 : List Int), l0.length ≤ maxLen → l0.length * 1 ≤ 140737488351232 → (∀ x ∈ l0, (Lit.int .u8 x).wf = true) → ∃ k p want row rb told m, (l0.length : Int) > 1048576 ∨ laws_FnTurnVals.Facts k l0 p want row rb told m
theorem laws_FnTurnVals.walk (P : laws_FnTurnVals.Pure) (a0 : Option Addr) (len0 cap0 : Nat) (z0 : List Int) (w : World) (w0 : (a0 = none ∧ len0 = 0 ∧ cap0 = 0 ∧ z0 = []) ∨ ∃ x, a0 = some x ∧ len0 ≤ cap0 ∧ cap0 ≤ maxLen ∧ z0.length = cap0 ∧ (∀ i, i < z0.length → w.cell? (x.add i) = some (.int .u8 (z0.getD i 0))) ∧ ∀ n ∈ z0, (Lit.int .u8 n).wf = true) (y0 : len0 * 1 ≤ 140737488351232) :
  Calls Try.prog 13 #[.slice a0 len0 cap0] w fun e w' => e = .returned (.bool true) ∧ Below w.heap.size w w' := by
 obtain ⟨l0, rfl, hr0, hm0, hw0, hc0⟩ := ReadsInt.ofRowC w0
 obtain ⟨k, p, want, row, rb, told, m, h⟩ := P l0 hm0 y0 hw0
 refine (laws_FnTurnVals.calls k _ _ l0 w p want row rb told m (Kd.C_of_reads (d := (0 : Int)) (h1 := fun _ => rfl) hr0) hc0 h).mono ?_
 rintro e w' ⟨rfl, hd⟩
 exact ⟨rfl, hd⟩


end Go.Proofs.Ytefkbmhkhpekjaa.PB

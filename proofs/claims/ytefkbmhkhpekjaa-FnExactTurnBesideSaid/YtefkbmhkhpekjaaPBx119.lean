-- Written by this session's wip/myprint.py (the kit's print.py, with hand-written chunks). Lean checks it.
import Derived.Test.YtefkbmhkhpekjaaPBx0
namespace Go.Proofs.Ytefkbmhkhpekjaa.PB
open Go.RowKit Go.Proofs.YtefkbmhkhpekjaaW.PrintWords Go.Proofs.YtefkbmhkhpekjaaW.PrintLast Go.Proofs.YtefkbmhkhpekjaaW.PrintMore
attribute [local go_sem] max2_int min2_int max_two min_two max_three min_three max_four min_four   -- for this text's walks alone
open Go.Proofs.YtefkbmhkhpekjaaMine
set_option linter.unusedVariables false
set_option linter.unusedSimpArgs false

theorem z119_1 {p : Prop} (h : p := by first | rfl | (simp; done) | (simp [*]; done)) : p := h
theorem z119_2 {p : Prop} (h : p := by first | (with_reducible assumption) | assumption) : p := h
theorem z119_3 {p : Prop} (h : p := by repeat (first | exact Drawn0.refl _ | apply Drawn0.step)) : p := h
/-! ### laws_heldDoS: function 119 -/
def laws_heldDoS.l0 : Nat → List (S85) → Int → Int → Option (Int)
  | 0, _, _, _ => none
  | k + 1, x0, x1, x5 => if x5 < (x0.length : Int) then (if 0 ≤ x5 then (if ((rd_T85 x0 x5).f0) = x1 then (if ((rd_T85 x0 x5).f1) = (wrap64 (x1 + 1)) then (if ((rd_T85 x0 x5).f2) = (wrap64 ((wrap64 (x1 + 1)) + 1)) then (laws_heldDoS.l0 k x0 (wrap64 ((wrap64 ((wrap64 (x1 + 1)) + 1)) + 1)) (wrap64 (x5 + 1))) else (some (-1))) else (some (-1))) else (some (-1))) else (none)) else (some x1)
def laws_heldDoS.f (k : Nat) (l0 : List (S85)) (a1 : Int) : Option (Int) := laws_heldDoS.l0 k l0 a1 0
theorem laws_heldDoS.mono_l : ∀ k, (∀ y0 y1 y2, LeO (laws_heldDoS.l0 k y0 y1 y2) (laws_heldDoS.l0 (k + 1) y0 y1 y2))
  | 0 => fun _ _ _ r h => by simp [laws_heldDoS.l0] at h
  | k + 1 => by
    have ih0 := laws_heldDoS.mono_l k
    · intro y0 y1 y2
      unfold laws_heldDoS.l0
      repeat' first
      | (with_reducible exact ih0 _ _ _)
      | (with_reducible exact LeO.refl _)
      | (with_reducible exact LeO.none _)
      | (with_reducible refine LeO.ite ?_ ?_)
      | (with_reducible refine LeO.bind ?_ (fun _ => ?_))
      | exact ih0 _ _ _
      | exact LeO.none _
      | refine LeO.ite ?_ ?_
      | refine LeO.bind ?_ (fun _ => ?_)
theorem laws_heldDoS.mono : ∀ a0 a1 k, LeO (laws_heldDoS.f k a0 a1) (laws_heldDoS.f (k + 1) a0 a1) := by
  intro a0 a1 k
  have ih0 := laws_heldDoS.mono_l k
  unfold laws_heldDoS.f
  repeat' first
      | (with_reducible exact ih0 _ _ _)
      | (with_reducible exact LeO.refl _)
      | (with_reducible exact LeO.none _)
      | (with_reducible refine LeO.ite ?_ ?_)
      | (with_reducible refine LeO.bind ?_ (fun _ => ?_))
      | exact ih0 _ _ _
      | exact LeO.none _
      | refine LeO.ite ?_ ?_
      | refine LeO.bind ?_ (fun _ => ?_)
set_option maxHeartbeats 8000000 in
set_option maxRecDepth 100000 in
theorem laws_heldDoS.calls (k : Nat) (A0 : Option Addr) (c0 : Nat) (l0 : List (S85)) (a1 : Int) (r : Int) (w : World) (hr0 : Kd.C k85 w A0 l0.length l0) (hc0 : l0.length ≤ c0) (h : laws_heldDoS.f k l0 a1 = some r) :
  Calls Try.prog 119 #[.slice A0 l0.length c0, .int .i64 a1] w fun e w' => e = .returned (.int .i64 r) ∧ Drawn0 w w' := by
 have HR0 := am_ hr0
 have HC0 := am_ hc0
 clear hr0 hc0
 have H : (laws_heldDoS.l0 k l0 a1 0) = some r := h
 clear h
 have H' := am_ H
 clear H
 go_enter Try.func119, Try.ntmps119
 go_wp2
 go_loopg [1, 5] k (fun kq v1 v5 w' => ∃ (x1_1 : Int) (x5_1 : Int), v1 = .int .i64 x1_1 ∧ v5 = .int .i64 x5_1 ∧ Aside0 (laws_heldDoS.l0 kq l0 x1_1 x5_1 = some r) ∧ Aside0 (kq ≤ k) ∧ Drawn0 w w')
 case atStart => exact ⟨(a1), (0), z119_1, z119_1, H', ⟨Nat.le_refl _⟩, z119_3⟩
 case round =>
  clear H'
  obtain ⟨x1_1, x5_1, rfl, rfl, HA, HK1, ⟨m1, rfl⟩⟩ := hrel
  cases gk with
  | zero => exact absurd HA.out (by simp [laws_heldDoS.l0])
  | succ k1 =>
   have H := HA.out
   clear HA
   simp only [laws_heldDoS.l0] at H
   by_cases c3 : x5_1 < (l0.length : Int)
   ·rw [if_pos c3] at H
    have c3b0 : decide (x5_1 < (l0.length : Int)) = true := decide_eq_true c3
    clear c3
    by_cases c4 : 0 ≤ x5_1
    ·rw [if_pos c4] at H
     have c4b0 : decide (0 ≤ x5_1) = true := decide_eq_true c4
     clear c4
     by_cases c5 : ((rd_T85 l0 x5_1).f0) = x1_1
     ·rw [if_pos c5] at H
      have c5b0 : (((rd_T85 l0 x5_1).f0) == x1_1) = true := beq_iff_eq.mpr c5
      have c5b1 : (((rd_T85 l0 x5_1).f0) != x1_1) = false := bne_eq_false_iff_eq.mpr c5
      clear c5
      by_cases c6 : ((rd_T85 l0 x5_1).f1) = (wrap64 (x1_1 + 1))
      ·rw [if_pos c6] at H
       have c6b0 : (((rd_T85 l0 x5_1).f1) == (wrap64 (x1_1 + 1))) = true := beq_iff_eq.mpr c6
       have c6b1 : (((rd_T85 l0 x5_1).f1) != (wrap64 (x1_1 + 1))) = false := bne_eq_false_iff_eq.mpr c6
       clear c6
       by_cases c7 : ((rd_T85 l0 x5_1).f2) = (wrap64 ((wrap64 (x1_1 + 1)) + 1))
       ·rw [if_pos c7] at H
        have c7b0 : (((rd_T85 l0 x5_1).f2) == (wrap64 ((wrap64 (x1_1 + 1)) + 1))) = true := beq_iff_eq.mpr c7
        have c7b1 : (((rd_T85 l0 x5_1).f2) != (wrap64 ((wrap64 (x1_1 + 1)) + 1))) = false := bne_eq_false_iff_eq.mpr c7
        clear c7
        have H' := am_ H
        clear H
        have p408 : 0 ≤ (x5_1 : Int) := of_decide_eq_true z119_2
        have q408 : x5_1 < (l0.length : Int) := of_decide_eq_true z119_2
        obtain ⟨ad408, e408, hx408_0, hx408_1, hx408_2⟩ := at_T85 HR0.out x5_1 p408 q408
        cases e408
        replace p408 := eq_true p408
        replace q408 := eq_true q408
        have p409 : 0 ≤ (x5_1 : Int) := of_decide_eq_true z119_2
        have q409 : x5_1 < (l0.length : Int) := of_decide_eq_true z119_2
        obtain ⟨ad409, e409, hx409_0, hx409_1, hx409_2⟩ := at_T85 HR0.out x5_1 p409 q409
        obtain rfl : ad408 = ad409 := (by injection e409)
        replace p409 := eq_true p409
        replace q409 := eq_true q409
        have p410 : 0 ≤ (x5_1 : Int) := of_decide_eq_true z119_2
        have q410 : x5_1 < (l0.length : Int) := of_decide_eq_true z119_2
        obtain ⟨ad410, e410, hx410_0, hx410_1, hx410_2⟩ := at_T85 HR0.out x5_1 p410 q410
        obtain rfl : ad408 = ad410 := (by injection e410)
        replace p410 := eq_true p410
        replace q410 := eq_true q410
        go_wp2
        go_roundg k1
        case measure => have := HK1.out; omega
        case rel => exact ⟨(wrap64 ((wrap64 ((wrap64 (x1_1 + 1)) + 1)) + 1)), (wrap64 (x5_1 + 1)), z119_1, z119_1, H', ⟨by have := HK1.out; omega⟩, z119_3⟩
       ·rw [if_neg c7] at H
        have c7b0 : (((rd_T85 l0 x5_1).f2) == (wrap64 ((wrap64 (x1_1 + 1)) + 1))) = false := beq_eq_false_iff_ne.mpr c7
        have c7b1 : (((rd_T85 l0 x5_1).f2) != (wrap64 ((wrap64 (x1_1 + 1)) + 1))) = true := bne_iff_ne.mpr c7
        obtain rfl := Option.some.inj H
        have p408 : 0 ≤ (x5_1 : Int) := of_decide_eq_true z119_2
        have q408 : x5_1 < (l0.length : Int) := of_decide_eq_true z119_2
        obtain ⟨ad408, e408, hx408_0, hx408_1, hx408_2⟩ := at_T85 HR0.out x5_1 p408 q408
        cases e408
        replace p408 := eq_true p408
        replace q408 := eq_true q408
        have p409 : 0 ≤ (x5_1 : Int) := of_decide_eq_true z119_2
        have q409 : x5_1 < (l0.length : Int) := of_decide_eq_true z119_2
        obtain ⟨ad409, e409, hx409_0, hx409_1, hx409_2⟩ := at_T85 HR0.out x5_1 p409 q409
        obtain rfl : ad408 = ad409 := (by injection e409)
        replace p409 := eq_true p409
        replace q409 := eq_true q409
        have p410 : 0 ≤ (x5_1 : Int) := of_decide_eq_true z119_2
        have q410 : x5_1 < (l0.length : Int) := of_decide_eq_true z119_2
        obtain ⟨ad410, e410, hx410_0, hx410_1, hx410_2⟩ := at_T85 HR0.out x5_1 p410 q410
        obtain rfl : ad408 = ad410 := (by injection e410)
        replace p410 := eq_true p410
        replace q410 := eq_true q410
        go_wp2
        go_ret
        exact ⟨z119_1, z119_3⟩
      ·rw [if_neg c6] at H
       have c6b0 : (((rd_T85 l0 x5_1).f1) == (wrap64 (x1_1 + 1))) = false := beq_eq_false_iff_ne.mpr c6
       have c6b1 : (((rd_T85 l0 x5_1).f1) != (wrap64 (x1_1 + 1))) = true := bne_iff_ne.mpr c6
       obtain rfl := Option.some.inj H
       have p408 : 0 ≤ (x5_1 : Int) := of_decide_eq_true z119_2
       have q408 : x5_1 < (l0.length : Int) := of_decide_eq_true z119_2
       obtain ⟨ad408, e408, hx408_0, hx408_1, hx408_2⟩ := at_T85 HR0.out x5_1 p408 q408
       cases e408
       replace p408 := eq_true p408
       replace q408 := eq_true q408
       have p409 : 0 ≤ (x5_1 : Int) := of_decide_eq_true z119_2
       have q409 : x5_1 < (l0.length : Int) := of_decide_eq_true z119_2
       obtain ⟨ad409, e409, hx409_0, hx409_1, hx409_2⟩ := at_T85 HR0.out x5_1 p409 q409
       obtain rfl : ad408 = ad409 := (by injection e409)
       replace p409 := eq_true p409
       replace q409 := eq_true q409
       go_wp2
       go_ret
       exact ⟨z119_1, z119_3⟩
     ·rw [if_neg c5] at H
      have c5b0 : (((rd_T85 l0 x5_1).f0) == x1_1) = false := beq_eq_false_iff_ne.mpr c5
      have c5b1 : (((rd_T85 l0 x5_1).f0) != x1_1) = true := bne_iff_ne.mpr c5
      obtain rfl := Option.some.inj H
      have p408 : 0 ≤ (x5_1 : Int) := of_decide_eq_true z119_2
      have q408 : x5_1 < (l0.length : Int) := of_decide_eq_true z119_2
      obtain ⟨ad408, e408, hx408_0, hx408_1, hx408_2⟩ := at_T85 HR0.out x5_1 p408 q408
      cases e408
      replace p408 := eq_true p408
      replace q408 := eq_true q408
      go_wp2
      go_ret
      exact ⟨z119_1, z119_3⟩
    ·rw [if_neg c4] at H
     exact absurd H (by simp)
   ·rw [if_neg c3] at H
    have c3b0 : decide (x5_1 < (l0.length : Int)) = false := decide_eq_false c3
    clear c3
    obtain rfl := Option.some.inj H
    go_wp2
    go_ret
    exact ⟨z119_1, z119_3⟩

end Go.Proofs.Ytefkbmhkhpekjaa.PB

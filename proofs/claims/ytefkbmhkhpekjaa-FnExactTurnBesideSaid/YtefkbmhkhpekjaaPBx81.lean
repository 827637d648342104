-- Written by this session's wip/myprint.py (the kit's print.py, with hand-written chunks). Lean checks it.
import Derived.Test.YtefkbmhkhpekjaaPBx0
import Derived.Test.YtefkbmhkhpekjaaPBx119
namespace Go.Proofs.Ytefkbmhkhpekjaa.PB
open Go.RowKit Go.Proofs.YtefkbmhkhpekjaaW.PrintWords Go.Proofs.YtefkbmhkhpekjaaW.PrintLast Go.Proofs.YtefkbmhkhpekjaaW.PrintMore
attribute [local go_sem] max2_int min2_int max_two min_two max_three min_three max_four min_four   -- for this text's walks alone
open Go.Proofs.YtefkbmhkhpekjaaMine
set_option linter.unusedVariables false
set_option linter.unusedSimpArgs false

theorem z81_1 {p : Prop} (h : p := by first | rfl | (simp; done) | (simp [*]; done)) : p := h
theorem z81_2 {p : Prop} (h : p := by first | (with_reducible assumption) | assumption) : p := h
theorem z81_3 {p : Prop} (h : p := by repeat (first | exact Drawn0.refl _ | apply Drawn0.step)) : p := h
/-! ### laws_heldDoSS: function 81 -/
def laws_heldDoSS.l0 : Nat → List (List (S85)) → Int → Int → Option (Int)
  | 0, _, _, _ => none
  | k + 1, x0, x1, x5 => if x5 < (x0.length : Int) then (if 0 ≤ x5 then ((laws_heldDoS.f k (rd_L7 x0 x5) x1).bind fun t412 => (if t412 < 0 then (some (-1)) else (laws_heldDoSS.l0 k x0 t412 (wrap64 (x5 + 1))))) else (none)) else (some x1)
def laws_heldDoSS.f (k : Nat) (l0 : List (List (S85))) (a1 : Int) : Option (Int) := laws_heldDoSS.l0 k l0 a1 0
theorem laws_heldDoSS.mono_l : ∀ k, (∀ y0 y1 y2, LeO (laws_heldDoSS.l0 k y0 y1 y2) (laws_heldDoSS.l0 (k + 1) y0 y1 y2))
  | 0 => fun _ _ _ r h => by simp [laws_heldDoSS.l0] at h
  | k + 1 => by
    have ih0 := laws_heldDoSS.mono_l k
    · intro y0 y1 y2
      unfold laws_heldDoSS.l0
      repeat' first
      | (with_reducible exact ih0 _ _ _)
      | (with_reducible exact laws_heldDoS.mono _ _ _)
      | (with_reducible exact LeO.refl _)
      | (with_reducible exact LeO.none _)
      | (with_reducible refine LeO.ite ?_ ?_)
      | (with_reducible refine LeO.bind ?_ (fun _ => ?_))
      | exact ih0 _ _ _
      | exact laws_heldDoS.mono _ _ _
      | exact LeO.none _
      | refine LeO.ite ?_ ?_
      | refine LeO.bind ?_ (fun _ => ?_)
theorem laws_heldDoSS.mono : ∀ a0 a1 k, LeO (laws_heldDoSS.f k a0 a1) (laws_heldDoSS.f (k + 1) a0 a1) := by
  intro a0 a1 k
  have ih0 := laws_heldDoSS.mono_l k
  unfold laws_heldDoSS.f
  repeat' first
      | (with_reducible exact ih0 _ _ _)
      | (with_reducible exact laws_heldDoS.mono _ _ _)
      | (with_reducible exact LeO.refl _)
      | (with_reducible exact LeO.none _)
      | (with_reducible refine LeO.ite ?_ ?_)
      | (with_reducible refine LeO.bind ?_ (fun _ => ?_))
      | exact ih0 _ _ _
      | exact laws_heldDoS.mono _ _ _
      | exact LeO.none _
      | refine LeO.ite ?_ ?_
      | refine LeO.bind ?_ (fun _ => ?_)
set_option maxHeartbeats 8000000 in
set_option maxRecDepth 100000 in
theorem laws_heldDoSS.calls (k : Nat) (A0 : Option Addr) (c0 : Nat) (l0 : List (List (S85))) (a1 : Int) (r : Int) (w : World) (hr0 : Kd.C (Kd.slice 85 k85) w A0 l0.length l0) (hc0 : l0.length ≤ c0) (h : laws_heldDoSS.f k l0 a1 = some r) :
  Calls Try.prog 81 #[.slice A0 l0.length c0, .int .i64 a1] w fun e w' => e = .returned (.int .i64 r) ∧ Drawn0 w w' := by
 have HR0 := am_ hr0
 have HC0 := am_ hc0
 clear hr0 hc0
 have H : (laws_heldDoSS.l0 k l0 a1 0) = some r := h
 clear h
 have H' := am_ H
 clear H
 go_enter Try.func81, Try.ntmps81
 go_wp2
 go_loopg [1, 5] k (fun kq v1 v5 w' => ∃ (x1_1 : Int) (x5_1 : Int), v1 = .int .i64 x1_1 ∧ v5 = .int .i64 x5_1 ∧ Aside0 (laws_heldDoSS.l0 kq l0 x1_1 x5_1 = some r) ∧ Aside0 (kq ≤ k) ∧ Drawn0 w w')
 case atStart => exact ⟨(a1), (0), z81_1, z81_1, H', ⟨Nat.le_refl _⟩, z81_3⟩
 case round =>
  clear H'
  obtain ⟨x1_1, x5_1, rfl, rfl, HA, HK1, ⟨m1, rfl⟩⟩ := hrel
  cases gk with
  | zero => exact absurd HA.out (by simp [laws_heldDoSS.l0])
  | succ k1 =>
   have H := HA.out
   clear HA
   simp only [laws_heldDoSS.l0] at H
   by_cases c3 : x5_1 < (l0.length : Int)
   ·rw [if_pos c3] at H
    have c3b0 : decide (x5_1 < (l0.length : Int)) = true := decide_eq_true c3
    clear c3
    by_cases c4 : 0 ≤ x5_1
    ·rw [if_pos c4] at H
     have c4b0 : decide (0 ≤ x5_1) = true := decide_eq_true c4
     clear c4
     replace H := Option.bind_eq_some_iff.mp H
     obtain ⟨t412, A50, H⟩ := H
     replace H : (if t412 < 0 then (some (-1)) else (laws_heldDoSS.l0 k1 l0 t412 (wrap64 (x5_1 + 1)))) = some r := H
     have A5 := am_ A50
     clear A50
     by_cases c6 : t412 < 0
     ·rw [if_pos c6] at H
      have c6b0 : decide (t412 < 0) = true := decide_eq_true c6
      clear c6
      obtain rfl := Option.some.inj H
      have p411 : 0 ≤ (x5_1 : Int) := of_decide_eq_true z81_2
      have q411 : x5_1 < (l0.length : Int) := of_decide_eq_true z81_2
      obtain ⟨ad411, A411_0, c411_0, e411, hx411_0, hl411_0, hi411_0⟩ := at_L7 HR0.out x5_1 p411 q411
      cases e411
      have HR411_0 := am_ hi411_0
      have HC411_0 := am_ hl411_0
      clear hi411_0 hl411_0
      replace p411 := eq_true p411
      replace q411 := eq_true q411
      go_wp2_with (first | ((with_reducible refine gate_callee (f := 119) rfl ?_); refine goesL_ (some 17) rfl rfl Try.func119 (by kernel_rfl) rfl #[.slice A411_0 (rd_L7 l0 x5_1).length c411_0, .int .i64 x1_1] rfl (by (try simp only [List.map_toArray, List.map_cons, List.map_nil]); first | done | rfl | (simp only [List.length_drop, List.length_take]; rfl)) ?_; (with_reducible refine (laws_heldDoS.calls k1 _ _ (rd_L7 l0 x5_1) x1_1 t412 _ ?side1 ?side2 A5.out).mono ?_); (case side1 => repeat (first | exact HR411_0.out | (with_reducible refine Kd.C_alloc ?_ _) | (with_reducible refine Kd.C_drewN ?_ _) | (with_reducible refine Kd.C_drew ?_))); (case side2 => exact HC411_0.out); rintro e w' ⟨rfl, ⟨nd, rfl⟩⟩; refine ⟨_, rfl, ?_⟩))
      go_ret
      exact ⟨z81_1, z81_3⟩
     ·rw [if_neg c6] at H
      have c6b0 : decide (t412 < 0) = false := decide_eq_false c6
      clear c6
      have H' := am_ H
      clear H
      have p411 : 0 ≤ (x5_1 : Int) := of_decide_eq_true z81_2
      have q411 : x5_1 < (l0.length : Int) := of_decide_eq_true z81_2
      obtain ⟨ad411, A411_0, c411_0, e411, hx411_0, hl411_0, hi411_0⟩ := at_L7 HR0.out x5_1 p411 q411
      cases e411
      have HR411_0 := am_ hi411_0
      have HC411_0 := am_ hl411_0
      clear hi411_0 hl411_0
      replace p411 := eq_true p411
      replace q411 := eq_true q411
      go_wp2_with (first | ((with_reducible refine gate_callee (f := 119) rfl ?_); refine goesL_ (some 17) rfl rfl Try.func119 (by kernel_rfl) rfl #[.slice A411_0 (rd_L7 l0 x5_1).length c411_0, .int .i64 x1_1] rfl (by (try simp only [List.map_toArray, List.map_cons, List.map_nil]); first | done | rfl | (simp only [List.length_drop, List.length_take]; rfl)) ?_; (with_reducible refine (laws_heldDoS.calls k1 _ _ (rd_L7 l0 x5_1) x1_1 t412 _ ?side1 ?side2 A5.out).mono ?_); (case side1 => repeat (first | exact HR411_0.out | (with_reducible refine Kd.C_alloc ?_ _) | (with_reducible refine Kd.C_drewN ?_ _) | (with_reducible refine Kd.C_drew ?_))); (case side2 => exact HC411_0.out); rintro e w' ⟨rfl, ⟨nd, rfl⟩⟩; refine ⟨_, rfl, ?_⟩))
      go_roundg k1
      case measure => have := HK1.out; omega
      case rel => exact ⟨(t412), (wrap64 (x5_1 + 1)), z81_1, z81_1, H', ⟨by have := HK1.out; omega⟩, z81_3⟩
    ·rw [if_neg c4] at H
     exact absurd H (by simp)
   ·rw [if_neg c3] at H
    have c3b0 : decide (x5_1 < (l0.length : Int)) = false := decide_eq_false c3
    clear c3
    obtain rfl := Option.some.inj H
    go_wp2
    go_ret
    exact ⟨z81_1, z81_3⟩

end Go.Proofs.Ytefkbmhkhpekjaa.PB

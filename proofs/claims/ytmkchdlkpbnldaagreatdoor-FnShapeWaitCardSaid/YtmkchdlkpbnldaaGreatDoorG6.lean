/- What the laws share, part 6: PBx85. -/
import Derived.Test.YtmkchdlkpbnldaaGreatDoorG4
namespace Go.Proofs.YtmkchdlkpbnldaaGreatDoor.PB
open Go.RowKit Go.Proofs.YtmkchdlkpbnldaaGreatDoorW.PrintWords Go.Proofs.YtmkchdlkpbnldaaGreatDoorW.PrintLast Go.Proofs.YtmkchdlkpbnldaaGreatDoorW.PrintMore
attribute [local go_sem] max2_int min2_int max_two min_two max_three min_three max_four min_four
open Go.Proofs.YtmkchdlkpbnldaaGreatDoorMine
set_option linter.unusedVariables false
set_option linter.unusedSimpArgs false
theorem z85_1 {p : Prop} (h : p := by first | rfl | (simp; done) | (simp [*]; done)) : p := h
theorem z85_2 {p : Prop} (h : p := by first | (with_reducible assumption) | assumption) : p := h
theorem z85_3 {p : Prop} (h : p := by repeat (first | exact Drawn0.refl _ | apply Drawn0.step)) : p := h
def slices_Equal_int_int.l0 : Nat → List Int → List Int → Int → Int → Option (Bool)
  | 0, _, _, _, _ => none
  | k + 1, x0, x1, x12, x13 => if x13 < x12 then (if 0 ≤ x13 then (if x13 < (x0.length : Int) then (if x13 < (x1.length : Int) then (if (rd x0 x13) = (rd x1 x13) then (slices_Equal_int_int.l0 k x0 x1 x12 (wrap64 (x13 + 1))) else (some false)) else (none)) else (none)) else (none)) else (some true)
def slices_Equal_int_int.f (k : Nat) (l0 : List Int) (l1 : List Int) : Option (Bool) := if (l0.length : Int) = (l1.length : Int) then (slices_Equal_int_int.l0 k l0 l1 (l0.length : Int) 0) else (some false)
set_option maxHeartbeats 8000000 in
set_option maxRecDepth 100000 in
theorem slices_Equal_int_int.calls (k : Nat) (A0 : Option Addr) (c0 : Nat) (l0 : List Int) (A1 : Option Addr) (c1 : Nat) (l1 : List Int) (r : Bool) (w : World) (hr0 : Kd.C (Kd.int .i64) w A0 l0.length l0) (hc0 : l0.length ≤ c0) (hr1 : Kd.C (Kd.int .i64) w A1 l1.length l1) (hc1 : l1.length ≤ c1) (h : slices_Equal_int_int.f k l0 l1 = some r) :
  Calls Tryz.prog 85 #[.slice A0 l0.length c0, .slice A1 l1.length c1] w fun e w' => e = .returned (.bool r) ∧ Drawn0 w w' := by
 have HR0 := am_ hr0; have HC0 := am_ hc0; clear hr0 hc0; have HR1 := am_ hr1; have HC1 := am_ hc1; clear hr1 hc1; have H : (if (l0.length : Int) = (l1.length : Int) then (slices_Equal_int_int.l0 k l0 l1 (l0.length : Int) 0) else (some false)) = some r := h; clear h; by_cases c3 : (l0.length : Int) = (l1.length : Int)
 ·rw [if_pos c3] at H; have c3b0 := beq_iff_eq.mpr c3; have c3b1 := bne_eq_false_iff_eq.mpr c3; have c3b2 : (l0.length == l1.length) = true := by first | simpa using c3 | (simp at c3 ⊢; omega)
  clear c3; have H' := am_ H; clear H; go_enter Tryz.func85, Tryz.ntmps85; go_wp2; repeat (go_quiet (fail); try go_wp2)
  go_loopg [13] k (fun kq v13 w' => ∃ (x13_1 : Int), v13 = .int .i64 x13_1 ∧ Aside0 (slices_Equal_int_int.l0 kq l0 l1 (l0.length : Int) x13_1 = some r) ∧ Aside0 (kq ≤ k) ∧ Drawn0 w w')
  case atStart => exact ⟨(0), z85_1, H', ⟨Nat.le_refl _⟩, z85_3⟩
  case round =>
   clear H'; obtain ⟨x13_1, rfl, HA, HK1, ⟨m1, rfl⟩⟩ := hrel
   cases gk with
   | zero => exact absurd HA.out (by simp [slices_Equal_int_int.l0])
   | succ k1 =>
    have H := HA.out; clear HA; simp only [slices_Equal_int_int.l0] at H; by_cases c4 : x13_1 < (l0.length : Int)
    ·rw [if_pos c4] at H; have c4b0 := decide_eq_true c4; clear c4; by_cases c5 : 0 ≤ x13_1
     ·rw [if_pos c5] at H; have c5b0 := decide_eq_true c5; clear c5; by_cases c6 : x13_1 < (l0.length : Int)
      ·rw [if_pos c6] at H; have c6b0 := decide_eq_true c6; clear c6; by_cases c7 : x13_1 < (l1.length : Int)
       ·rw [if_pos c7] at H; have c7b0 := decide_eq_true c7; clear c7; by_cases c8 : (rd l0 x13_1) = (rd l1 x13_1)
        ·rw [if_pos c8] at H; have c8b0 := beq_iff_eq.mpr c8; have c8b1 := bne_eq_false_iff_eq.mpr c8; clear c8; have H' := am_ H; clear H; have p483 : 0 ≤ (x13_1 : Int) := of_decide_eq_true z85_2; have q483 : x13_1 < (l0.length : Int) := of_decide_eq_true z85_2; obtain ⟨ad483, e483, hx483_0⟩ := Kd.at_int HR0.out x13_1 p483 q483; cases e483; replace p483 := eq_true p483; replace q483 := eq_true q483; have p484 : 0 ≤ (x13_1 : Int) := of_decide_eq_true z85_2; have q484 : x13_1 < (l1.length : Int) := of_decide_eq_true z85_2; obtain ⟨ad484, e484, hx484_0⟩ := Kd.at_int HR1.out x13_1 p484 q484; cases e484; replace p484 := eq_true p484; replace q484 := eq_true q484; go_wp2; repeat (go_quiet (fail); try go_wp2)
         go_roundg k1
         case measure => have := HK1.out; omega
         case rel => exact ⟨(wrap64 (x13_1 + 1)), z85_1, H', ⟨by have := HK1.out; omega⟩, z85_3⟩
        rw [if_neg c8] at H; have c8b0 := beq_eq_false_iff_ne.mpr c8; have c8b1 := bne_iff_ne.mpr c8; obtain rfl := Option.some.inj H; have p483 : 0 ≤ (x13_1 : Int) := of_decide_eq_true z85_2; have q483 : x13_1 < (l0.length : Int) := of_decide_eq_true z85_2; obtain ⟨ad483, e483, hx483_0⟩ := Kd.at_int HR0.out x13_1 p483 q483; cases e483; replace p483 := eq_true p483; replace q483 := eq_true q483; have p484 : 0 ≤ (x13_1 : Int) := of_decide_eq_true z85_2; have q484 : x13_1 < (l1.length : Int) := of_decide_eq_true z85_2; obtain ⟨ad484, e484, hx484_0⟩ := Kd.at_int HR1.out x13_1 p484 q484; cases e484; replace p484 := eq_true p484; replace q484 := eq_true q484; go_wp2; repeat (go_quiet (fail); try go_wp2)
        go_ret; exact ⟨z85_1, z85_3⟩
       rw [if_neg c7] at H; exact absurd H (by simp)
      rw [if_neg c6] at H; exact absurd H (by simp)
     rw [if_neg c5] at H; exact absurd H (by simp)
    rw [if_neg c4] at H; have c4b0 := decide_eq_false c4; clear c4; obtain rfl := Option.some.inj H; go_wp2; repeat (go_quiet (fail); try go_wp2)
    go_ret; exact ⟨z85_1, z85_3⟩
 rw [if_neg c3] at H; have c3b0 := beq_eq_false_iff_ne.mpr c3; have c3b1 := bne_iff_ne.mpr c3; have c3b2 : (l0.length == l1.length) = false := by first | simpa using c3 | (simp at c3 ⊢; omega)
 obtain rfl := Option.some.inj H; go_enter Tryz.func85, Tryz.ntmps85; go_wp2; repeat (go_quiet (fail); try go_wp2)
 go_ret; exact ⟨z85_1, z85_3⟩
end Go.Proofs.YtmkchdlkpbnldaaGreatDoor.PB

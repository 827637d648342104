-- Joined by wip/mclaim.py out of YtefkbmhkhpekjaaPBx106, YtefkbmhkhpekjaaPBx62, YtefkbmhkhpekjaaPBx70, YtefkbmhkhpekjaaPBx71, YtefkbmhkhpekjaaPick, YtefkbmhkhpekjaaDrawA, YtefkbmhkhpekjaaDrawBad, YtefkbmhkhpekjaaPBx121, YtefkbmhkhpekjaaPBx86, YtefkbmhkhpekjaaPBx134, YtefkbmhkhpekjaaPBx135, YtefkbmhkhpekjaaPBx136
import Derived.Test.YtefkbmhkhpekjaaPBx0
import Derived.Laws.BitsLemmas
import Derived.Test.YtefkbmhkhpekjaaPBx87
import Derived.Test.YtefkbmhkhpekjaaPBx88
namespace Go.Proofs.Ytefkbmhkhpekjaa.PB
open Go.RowKit Go.Proofs.YtefkbmhkhpekjaaW.PrintWords Go.Proofs.YtefkbmhkhpekjaaW.PrintLast Go.Proofs.YtefkbmhkhpekjaaW.PrintMore
attribute [local go_sem] max2_int min2_int max_two min_two max_three min_three max_four min_four   -- for this text's walks alone
open Go.Proofs.YtefkbmhkhpekjaaMine
set_option linter.unusedVariables false
set_option linter.unusedSimpArgs false

theorem z106_1 {p : Prop} (h : p := by first | rfl | (simp; done) | (simp [*]; done)) : p := h
theorem z106_2 {p : Prop} (h : p := by first | (with_reducible assumption) | assumption) : p := h
theorem z106_3 {p : Prop} (h : p := by repeat (first | exact Drawn0.refl _ | apply Drawn0.step)) : p := h
/-! ### laws_lpInts: function 106 -/
def laws_lpInts.l0 : Nat → List Int → List Int → Int → Option (Bool)
  | 0, _, _, _ => none
  | k + 1, x0, x1, x5 => if x5 < (x0.length : Int) then (if 0 ≤ x5 then (if x5 < (x1.length : Int) then (if (rd x0 x5) = (rd x1 x5) then (laws_lpInts.l0 k x0 x1 (wrap64 (x5 + 1))) else (some false)) else (none)) else (none)) else (some true)
def laws_lpInts.f (k : Nat) (l0 : List Int) (l1 : List Int) : Option (Bool) := if (l0.length : Int) = (l1.length : Int) then (laws_lpInts.l0 k l0 l1 0) else (some false)
set_option maxHeartbeats 8000000 in
set_option maxRecDepth 100000 in
theorem laws_lpInts.calls (k : Nat) (A0 : Option Addr) (c0 : Nat) (l0 : List Int) (A1 : Option Addr) (c1 : Nat) (l1 : List Int) (r : Bool) (w : World) (hr0 : Kd.C (Kd.int .i64) w A0 l0.length l0) (hc0 : l0.length ≤ c0) (hr1 : Kd.C (Kd.int .i64) w A1 l1.length l1) (hc1 : l1.length ≤ c1) (h : laws_lpInts.f k l0 l1 = some r) :
  Calls Try.prog 106 #[.slice A0 l0.length c0, .slice A1 l1.length c1] w fun e w' => e = .returned (.bool r) ∧ Drawn0 w w' := by
 have HR0 := am_ hr0
 have HC0 := am_ hc0
 clear hr0 hc0
 have HR1 := am_ hr1
 have HC1 := am_ hc1
 clear hr1 hc1
 have H : (if (l0.length : Int) = (l1.length : Int) then (laws_lpInts.l0 k l0 l1 0) else (some false)) = some r := h
 clear h
 by_cases c3 : (l0.length : Int) = (l1.length : Int)
 ·rw [if_pos c3] at H
  have c3b0 : ((l0.length : Int) == (l1.length : Int)) = true := beq_iff_eq.mpr c3
  have c3b1 : ((l0.length : Int) != (l1.length : Int)) = false := bne_eq_false_iff_eq.mpr c3
  have c3b2 : (l0.length == l1.length) = true := by first | simpa using c3 | (simp at c3 ⊢; omega)
  clear c3
  have H' := am_ H
  clear H
  go_enter Try.func106, Try.ntmps106
  go_wp2
  repeat (go_quiet (fail); try go_wp2)
  go_loopg [5] k (fun kq v5 w' => ∃ (x5_1 : Int), v5 = .int .i64 x5_1 ∧ Aside0 (laws_lpInts.l0 kq l0 l1 x5_1 = some r) ∧ Aside0 (kq ≤ k) ∧ Drawn0 w w')
  case atStart => exact ⟨(0), z106_1, H', ⟨Nat.le_refl _⟩, z106_3⟩
  case round =>
   clear H'
   obtain ⟨x5_1, rfl, HA, HK1, ⟨m1, rfl⟩⟩ := hrel
   cases gk with
   | zero => exact absurd HA.out (by simp [laws_lpInts.l0])
   | succ k1 =>
    have H := HA.out
    clear HA
    simp only [laws_lpInts.l0] at H
    by_cases c4 : x5_1 < (l0.length : Int)
    ·rw [if_pos c4] at H
     have c4b0 : decide (x5_1 < (l0.length : Int)) = true := decide_eq_true c4
     clear c4
     by_cases c5 : 0 ≤ x5_1
     ·rw [if_pos c5] at H
      have c5b0 : decide (0 ≤ x5_1) = true := decide_eq_true c5
      clear c5
      by_cases c6 : x5_1 < (l1.length : Int)
      ·rw [if_pos c6] at H
       have c6b0 : decide (x5_1 < (l1.length : Int)) = true := decide_eq_true c6
       clear c6
       by_cases c7 : (rd l0 x5_1) = (rd l1 x5_1)
       ·rw [if_pos c7] at H
        have c7b0 : ((rd l0 x5_1) == (rd l1 x5_1)) = true := beq_iff_eq.mpr c7
        have c7b1 : ((rd l0 x5_1) != (rd l1 x5_1)) = false := bne_eq_false_iff_eq.mpr c7
        clear c7
        have H' := am_ H
        clear H
        have p00 : 0 ≤ (x5_1 : Int) := of_decide_eq_true z106_2
        have q00 : x5_1 < (l0.length : Int) := of_decide_eq_true z106_2
        obtain ⟨ad00, e00, hx00_0⟩ := Kd.at_int HR0.out x5_1 p00 q00
        cases e00
        replace p00 := eq_true p00
        replace q00 := eq_true q00
        have p01 : 0 ≤ (x5_1 : Int) := of_decide_eq_true z106_2
        have q01 : x5_1 < (l1.length : Int) := of_decide_eq_true z106_2
        obtain ⟨ad01, e01, hx01_0⟩ := Kd.at_int HR1.out x5_1 p01 q01
        cases e01
        replace p01 := eq_true p01
        replace q01 := eq_true q01
        go_wp2
        repeat (go_quiet (fail); try go_wp2)
        go_roundg k1
        case measure => have := HK1.out; omega
        case rel => exact ⟨(wrap64 (x5_1 + 1)), z106_1, H', ⟨by have := HK1.out; omega⟩, z106_3⟩
       rw [if_neg c7] at H
       have c7b0 : ((rd l0 x5_1) == (rd l1 x5_1)) = false := beq_eq_false_iff_ne.mpr c7
       have c7b1 : ((rd l0 x5_1) != (rd l1 x5_1)) = true := bne_iff_ne.mpr c7
       obtain rfl := Option.some.inj H
       have p00 : 0 ≤ (x5_1 : Int) := of_decide_eq_true z106_2
       have q00 : x5_1 < (l0.length : Int) := of_decide_eq_true z106_2
       obtain ⟨ad00, e00, hx00_0⟩ := Kd.at_int HR0.out x5_1 p00 q00
       cases e00
       replace p00 := eq_true p00
       replace q00 := eq_true q00
       have p01 : 0 ≤ (x5_1 : Int) := of_decide_eq_true z106_2
       have q01 : x5_1 < (l1.length : Int) := of_decide_eq_true z106_2
       obtain ⟨ad01, e01, hx01_0⟩ := Kd.at_int HR1.out x5_1 p01 q01
       cases e01
       replace p01 := eq_true p01
       replace q01 := eq_true q01
       go_wp2
       repeat (go_quiet (fail); try go_wp2)
       go_ret
       exact ⟨z106_1, z106_3⟩
      rw [if_neg c6] at H
      exact absurd H (by simp)
     rw [if_neg c5] at H
     exact absurd H (by simp)
    rw [if_neg c4] at H
    have c4b0 : decide (x5_1 < (l0.length : Int)) = false := decide_eq_false c4
    clear c4
    obtain rfl := Option.some.inj H
    go_wp2
    repeat (go_quiet (fail); try go_wp2)
    go_ret
    exact ⟨z106_1, z106_3⟩
 rw [if_neg c3] at H
 have c3b0 : ((l0.length : Int) == (l1.length : Int)) = false := beq_eq_false_iff_ne.mpr c3
 have c3b1 : ((l0.length : Int) != (l1.length : Int)) = true := bne_iff_ne.mpr c3
 have c3b2 : (l0.length == l1.length) = false := by first | simpa using c3 | (simp at c3 ⊢; omega)
 obtain rfl := Option.some.inj H
 go_enter Try.func106, Try.ntmps106
 go_wp2
 repeat (go_quiet (fail); try go_wp2)
 go_ret
 exact ⟨z106_1, z106_3⟩

end Go.Proofs.Ytefkbmhkhpekjaa.PB

namespace Go.Proofs.Ytefkbmhkhpekjaa.PB
open Go.RowKit Go.Proofs.YtefkbmhkhpekjaaW.PrintWords Go.Proofs.YtefkbmhkhpekjaaW.PrintLast Go.Proofs.YtefkbmhkhpekjaaW.PrintMore
attribute [local go_sem] max2_int min2_int max_two min_two max_three min_three max_four min_four   -- for this text's walks alone
open Go.Proofs.YtefkbmhkhpekjaaMine
set_option linter.unusedVariables false
set_option linter.unusedSimpArgs false

theorem z62_1 {p : Prop} (h : p := by first | rfl | (simp [errW_none, errW_some] <;> rfl) | (simp [*, errW_none, errW_some] <;> rfl)) : p := h
theorem z62_2 {p : Prop} (h : p := by repeat (first | (with_reducible first | exact HB.out | apply below_alloc | apply pw_below_drewN | apply below_drew1) | exact HB.out)) : p := h
theorem z62_3 {p : Prop} (h : p := by repeat (first | (with_reducible first | exact HB.out | apply below_alloc | apply pw_below_drewN | apply below_drew1 | refine below_set ?_ GE00.out) | exact HB.out)) : p := h
theorem z62_4 {p : Prop} (h : p := by repeat (first | (with_reducible first | exact HB.out | apply below_alloc | apply pw_below_drewN | apply below_drew1 | refine below_set ?_ GE00.out | refine below_set ?_ GE01.out) | exact HB.out)) : p := h
/-! ### laws_lpSame: function 62 -/
def laws_lpSame.f (k : Nat) (l0_0 : List Int) (l0_1 : List Int) (l1_0 : List Int) (l1_1 : List Int) : Option (Bool) := (laws_lpInts.f k l0_0 l1_0).bind fun t03 => (if t03 = true then ((laws_lpInts.f k l0_1 l1_1).bind fun t02 => (some t02)) else (some false))
set_option maxHeartbeats 8000000 in
set_option maxRecDepth 100000 in
theorem laws_lpSame.calls (k : Nat) (A0_0 : Option Addr) (c0_0 : Nat) (l0_0 : List Int) (A0_1 : Option Addr) (c0_1 : Nat) (l0_1 : List Int) (A1_0 : Option Addr) (c1_0 : Nat) (l1_0 : List Int) (A1_1 : Option Addr) (c1_1 : Nat) (l1_1 : List Int) (r : Bool) (w : World) (hr0_0 : Kd.C (Kd.int .i64) w A0_0 l0_0.length l0_0) (hc0_0 : l0_0.length ≤ c0_0) (hr0_1 : Kd.C (Kd.int .i64) w A0_1 l0_1.length l0_1) (hc0_1 : l0_1.length ≤ c0_1) (hr1_0 : Kd.C (Kd.int .i64) w A1_0 l1_0.length l1_0) (hc1_0 : l1_0.length ≤ c1_0) (hr1_1 : Kd.C (Kd.int .i64) w A1_1 l1_1.length l1_1) (hc1_1 : l1_1.length ≤ c1_1) (h : laws_lpSame.f k l0_0 l0_1 l1_0 l1_1 = some r) :
  Calls Try.prog 62 #[.agg #[.slice A0_0 l0_0.length c0_0, .slice A0_1 l0_1.length c0_1], .agg #[.slice A1_0 l1_0.length c1_0, .slice A1_1 l1_1.length c1_1]] w fun e w' => e = .returned (.bool r) ∧ Below w.heap.size w w' := by
 have hu24 := Try.underlying24
 have HR0_0 := am_ hr0_0
 have HC0_0 := am_ hc0_0
 clear hr0_0 hc0_0
 have HR0_1 := am_ hr0_1
 have HC0_1 := am_ hc0_1
 clear hr0_1 hc0_1
 have HR1_0 := am_ hr1_0
 have HC1_0 := am_ hc1_0
 clear hr1_0 hc1_0
 have HR1_1 := am_ hr1_1
 have HC1_1 := am_ hc1_1
 clear hr1_1 hc1_1
 have HB := am_ (Below.refl w.heap.size w)
 have H : ((laws_lpInts.f k l0_0 l1_0).bind fun t03 => (if t03 = true then ((laws_lpInts.f k l0_1 l1_1).bind fun t02 => (some t02)) else (some false))) = some r := h
 clear h
 replace H := Option.bind_eq_some_iff.mp H
 obtain ⟨t03, A30, H⟩ := H
 replace H : (if t03 = true then ((laws_lpInts.f k l0_1 l1_1).bind fun t02 => (some t02)) else (some false)) = some r := H
 have A3 := am_ A30
 clear A30
 by_cases c4 : t03 = true
 ·subst c4
  have H1 : ((laws_lpInts.f k l0_1 l1_1).bind fun t02 => (some t02)) = some r := by rw [if_pos rfl] at H; exact H
  clear H
  have H := H1
  clear H1
  replace H := Option.bind_eq_some_iff.mp H
  obtain ⟨t02, A50, H⟩ := H
  replace H : (some t02) = some r := H
  have A5 := am_ A50
  clear A50
  obtain rfl := Option.some.inj H
  go_enter Try.func62, Try.ntmps62
  go_wp2_with (first | ((with_reducible refine gate_dst (N := 2) rfl ?_); refine box_event ?hg (N := 2) ?hd (cs := #[.slice A0_0 l0_0.length c0_0, .slice A0_1 l0_1.length c0_1]) (t := 24) ?hr ?_; (case hd => rfl); (case hg => rfl); (case hr => first | (go_simp; done) | (go_simp; rfl)); intro gb00 hg w6 hbox hb; have n0_ := am_ (below_step z62_2 hb); have n1_ := am_ (hbox); have n2_ := am_ (by rw [hg]; exact (below_size z62_2) : w.heap.size ≤ gb00); have n3_ := am_ (by rw [hg]; exact (below_size z62_2) : w.heap.size ≤ gb00); clear HB; have HB := n0_; have BK00 := n1_; have GW00 := n2_; have GE00 := n3_; clear n0_ n1_ n2_ n3_; clear hb hbox hg) | ((with_reducible refine gate_dst (N := 3) rfl ?_); refine box_event ?hg (N := 3) ?hd (cs := #[.slice A1_0 l1_0.length c1_0, .slice A1_1 l1_1.length c1_1]) (t := 24) ?hr ?_; (case hd => rfl); (case hg => rfl); (case hr => first | (go_simp; done) | (go_simp; rfl)); intro gb01 hg w7 hbox hb; have n0_ := am_ (blk_below (bu BK00.out) hb); have n1_ := am_ (below_step z62_3 hb); have n2_ := am_ (hbox); have n3_ := am_ (by rw [hg]; exact (below_size z62_3) : w.heap.size ≤ gb01); have n4_ := am_ (by rw [hg]; exact (below_size z62_3) : w.heap.size ≤ gb01); have n5_ := am_ (by rw [hg]; exact Nat.ne_of_lt (blk_lt (bu BK00.out)) : gb00 ≠ gb01); have n6_ := am_ (by rw [hg]; exact Nat.ne_of_gt (blk_lt (bu BK00.out)) : gb01 ≠ gb00); clear BK00 HB; have BK00 := n0_; have HB := n1_; have BK01 := n2_; have GW01 := n3_; have GE01 := n4_; have NB00_01 := n5_; have NB01_00 := n6_; clear n0_ n1_ n2_ n3_ n4_ n5_ n6_; clear hb hbox hg; have hnb8 := NB00_01.out; have hnc8 := NB01_00.out; have hcz9_0 := cf0 BK00.out; have hcz9_1 := cf1 BK00.out; have hfz9_0 := blk_frozen BK00.out 0; have hfz9_1 := blk_frozen BK00.out 1; have hcz10_0 := cf0 BK01.out; have hcz10_1 := cf1 BK01.out; have hfz10_0 := blk_frozen BK01.out 0; have hfz10_1 := blk_frozen BK01.out 1) | ((with_reducible refine gate_callee (f := 106) rfl ?_); refine goesL_ (some 9) rfl rfl Try.func106 (by kernel_rfl) rfl #[.slice A0_0 l0_0.length c0_0, .slice A1_0 l1_0.length c1_0] rfl (by (try simp only [List.map_toArray, List.map_cons, List.map_nil]); first | done | rfl | (simp only [List.length_drop, List.length_take]; rfl)) ?_; (with_reducible refine (laws_lpInts.calls k _ _ l0_0 _ _ l1_0 true _ ?side1 ?side2 ?side3 ?side4 A3.out).mono ?_); (case side1 => repeat (first | exact (Kd.C_below HR0_0.out HB.out) | (with_reducible refine Kd.C_alloc ?_ _) | (with_reducible refine Kd.C_drewN ?_ _) | (with_reducible refine Kd.C_drew ?_))); (case side2 => exact HC0_0.out); (case side3 => repeat (first | exact (Kd.C_below HR1_0.out HB.out) | (with_reducible refine Kd.C_alloc ?_ _) | (with_reducible refine Kd.C_drewN ?_ _) | (with_reducible refine Kd.C_drew ?_))); (case side4 => exact HC1_0.out); rintro e w' ⟨rfl, ⟨nd, rfl⟩⟩; refine ⟨_, rfl, ?_⟩) | (go_at_call 106; (with_reducible refine (laws_lpInts.calls k _ _ l0_1 _ _ l1_1 t02 _ ?side1 ?side2 ?side3 ?side4 A5.out).mono ?_); (case side1 => repeat (first | exact (Kd.C_below HR0_1.out z62_4) | (with_reducible refine Kd.C_alloc ?_ _) | (with_reducible refine Kd.C_drewN ?_ _) | (with_reducible refine Kd.C_drew ?_))); (case side2 => exact HC0_1.out); (case side3 => repeat (first | exact (Kd.C_below HR1_1.out z62_4) | (with_reducible refine Kd.C_alloc ?_ _) | (with_reducible refine Kd.C_drewN ?_ _) | (with_reducible refine Kd.C_drew ?_))); (case side4 => exact HC1_1.out); rintro e w' ⟨rfl, ⟨nd, rfl⟩⟩))
  go_ret
  exact ⟨z62_1, z62_4⟩
 replace c4 := Bool.eq_false_iff.mpr c4
 subst c4
 have H1 : (some false) = some r := by rw [if_neg (show ¬ (false = true) by decide)] at H; exact H
 clear H
 have H := H1
 clear H1
 obtain rfl := Option.some.inj H
 go_enter Try.func62, Try.ntmps62
 go_wp2_with (first | ((with_reducible refine gate_dst (N := 2) rfl ?_); refine box_event ?hg (N := 2) ?hd (cs := #[.slice A0_0 l0_0.length c0_0, .slice A0_1 l0_1.length c0_1]) (t := 24) ?hr ?_; (case hd => rfl); (case hg => rfl); (case hr => first | (go_simp; done) | (go_simp; rfl)); intro gb00 hg w11 hbox hb; have n0_ := am_ (below_step z62_2 hb); have n1_ := am_ (hbox); have n2_ := am_ (by rw [hg]; exact (below_size z62_2) : w.heap.size ≤ gb00); have n3_ := am_ (by rw [hg]; exact (below_size z62_2) : w.heap.size ≤ gb00); clear HB; have HB := n0_; have BK00 := n1_; have GW00 := n2_; have GE00 := n3_; clear n0_ n1_ n2_ n3_; clear hb hbox hg) | ((with_reducible refine gate_dst (N := 3) rfl ?_); refine box_event ?hg (N := 3) ?hd (cs := #[.slice A1_0 l1_0.length c1_0, .slice A1_1 l1_1.length c1_1]) (t := 24) ?hr ?_; (case hd => rfl); (case hg => rfl); (case hr => first | (go_simp; done) | (go_simp; rfl)); intro gb01 hg w12 hbox hb; have n0_ := am_ (blk_below (bu BK00.out) hb); have n1_ := am_ (below_step z62_3 hb); have n2_ := am_ (hbox); have n3_ := am_ (by rw [hg]; exact (below_size z62_3) : w.heap.size ≤ gb01); have n4_ := am_ (by rw [hg]; exact (below_size z62_3) : w.heap.size ≤ gb01); have n5_ := am_ (by rw [hg]; exact Nat.ne_of_lt (blk_lt (bu BK00.out)) : gb00 ≠ gb01); have n6_ := am_ (by rw [hg]; exact Nat.ne_of_gt (blk_lt (bu BK00.out)) : gb01 ≠ gb00); clear BK00 HB; have BK00 := n0_; have HB := n1_; have BK01 := n2_; have GW01 := n3_; have GE01 := n4_; have NB00_01 := n5_; have NB01_00 := n6_; clear n0_ n1_ n2_ n3_ n4_ n5_ n6_; clear hb hbox hg; have hnb13 := NB00_01.out; have hnc13 := NB01_00.out; have hcz14_0 := cf0 BK00.out; have hcz14_1 := cf1 BK00.out; have hfz14_0 := blk_frozen BK00.out 0; have hfz14_1 := blk_frozen BK00.out 1; have hcz15_0 := cf0 BK01.out; have hcz15_1 := cf1 BK01.out; have hfz15_0 := blk_frozen BK01.out 0; have hfz15_1 := blk_frozen BK01.out 1) | ((with_reducible refine gate_callee (f := 106) rfl ?_); refine goesL_ (some 9) rfl rfl Try.func106 (by kernel_rfl) rfl #[.slice A0_0 l0_0.length c0_0, .slice A1_0 l1_0.length c1_0] rfl (by (try simp only [List.map_toArray, List.map_cons, List.map_nil]); first | done | rfl | (simp only [List.length_drop, List.length_take]; rfl)) ?_; (with_reducible refine (laws_lpInts.calls k _ _ l0_0 _ _ l1_0 false _ ?side1 ?side2 ?side3 ?side4 A3.out).mono ?_); (case side1 => repeat (first | exact (Kd.C_below HR0_0.out HB.out) | (with_reducible refine Kd.C_alloc ?_ _) | (with_reducible refine Kd.C_drewN ?_ _) | (with_reducible refine Kd.C_drew ?_))); (case side2 => exact HC0_0.out); (case side3 => repeat (first | exact (Kd.C_below HR1_0.out HB.out) | (with_reducible refine Kd.C_alloc ?_ _) | (with_reducible refine Kd.C_drewN ?_ _) | (with_reducible refine Kd.C_drew ?_))); (case side4 => exact HC1_0.out); rintro e w' ⟨rfl, ⟨nd, rfl⟩⟩; refine ⟨_, rfl, ?_⟩))
 go_ret
 exact ⟨z62_1, z62_4⟩

end Go.Proofs.Ytefkbmhkhpekjaa.PB

namespace Go.Proofs.Ytefkbmhkhpekjaa.PB
open Go.RowKit Go.Proofs.YtefkbmhkhpekjaaW.PrintWords Go.Proofs.YtefkbmhkhpekjaaW.PrintLast Go.Proofs.YtefkbmhkhpekjaaW.PrintMore
attribute [local go_sem] max2_int min2_int max_two min_two max_three min_three max_four min_four   -- for this text's walks alone
open Go.Proofs.YtefkbmhkhpekjaaMine
set_option linter.unusedVariables false
set_option linter.unusedSimpArgs false

/-- A state of type 116 at block g of W; what its slices lead to came in by w0. -/
def IsS116 (w0 W : World) (g : Nat) (f0 : List Int) (f1 : Int) : Prop := ∃ A0 c0, W.heap[g]? = some (.cells #[.slice A0 f0.length c0, .int .i64 f1] 116 (0, 0)) ∧ w0.heap.size ≤ g ∧ Kd.C (Kd.int .u8) w0 A0 f0.length f0
theorem IsS116.grown {w0 W : World} {g : Nat} {f0 : List Int} {f1 : Int} {W1 : World} {row : Option Nat} (h : IsS116 w0 W g f0 f1) (hw : W.grownBy W1 row) (hne : some g ≠ row) : IsS116 w0 W1 g f0 f1 := by
  obtain ⟨A0, c0, hb, hg, hr0⟩ := h
  exact ⟨A0, c0, blk_grown hb hw hne, hg, hr0⟩
theorem IsS116.below {w0 W : World} {g : Nat} {f0 : List Int} {f1 : Int} {W1 : World} (h : IsS116 w0 W g f0 f1) (hw : Below W.heap.size W W1) : IsS116 w0 W1 g f0 f1 := h.grown (grown_of_below hw none) (by simp)
theorem IsS116.alloc {w0 W : World} {g : Nat} {f0 : List Int} {f1 : Int} (h : IsS116 w0 W g f0 f1) (o : Obj) : IsS116 w0 (W.alloc o) g f0 f1 := h.below (below_alloc (Below.refl _ _) o)
theorem IsS116.drewN {w0 W : World} {g : Nat} {f0 : List Int} {f1 : Int} (h : IsS116 w0 W g f0 f1) (m : Nat) : IsS116 w0 (W.drewN m) g f0 f1 := h
theorem IsS116.drew {w0 W : World} {g : Nat} {f0 : List Int} {f1 : Int} (h : IsS116 w0 W g f0 f1) : IsS116 w0 W.drew g f0 f1 := h
theorem IsS116.apart {w0 W : World} {g : Nat} {f0 : List Int} {f1 : Int} {α : Type} {d : Kd α} {e : Nat} {base : Nat} {ok : Nat → Prop} {v : Value} {xs : List α} (h : IsS116 w0 W g f0 f1) (ho : d.R e W base ok v xs) (ht : ∀ q, q ∈ e :: d.E → q ≠ 116) : d.R e W base (fun k => ok k ∧ k ≠ g) v xs := by
  obtain ⟨A0, c0, hb, hg, hr0⟩ := h
  exact Kd.R_types ho hb ht
theorem IsS116.own_ne {w0 W : World} {g : Nat} {f0 : List Int} {f1 : Int} {α : Type} {d : Kd α} {e : Nat} {base : Nat} {ok : Nat → Prop} {v : Value} {xs : List α} (h : IsS116 w0 W g f0 f1) (ho : d.R e W base ok v xs) (ht : e ≠ 116) : some g ≠ v.ownBlock := by
  obtain ⟨A0, c0, hb, hg, hr0⟩ := h
  exact Kd.R_ne ho hb ht
theorem IsS116.lt {w0 W : World} {g : Nat} {f0 : List Int} {f1 : Int} (h : IsS116 w0 W g f0 f1) : g < W.heap.size := by
  obtain ⟨A0, c0, hb, hg, hr0⟩ := h
  exact blk_lt hb
theorem IsS116.ge {w0 W : World} {g : Nat} {f0 : List Int} {f1 : Int} (h : IsS116 w0 W g f0 f1) : w0.heap.size ≤ g := by
  obtain ⟨A0, c0, hb, hg, hr0⟩ := h
  exact hg
theorem IsS116.far {w0 W : World} {g : Nat} {f0 : List Int} {f1 : Int} {p : Addr} (h : IsS116 w0 W g f0 f1) (hne : g ≠ p.block) (u : Value) : IsS116 w0 (W.setCell p u) g f0 f1 := by
  obtain ⟨A0, c0, hb, hg, hr0⟩ := h
  exact ⟨A0, c0, blk_far hb hne u, hg, hr0⟩
theorem cellS116_0 {W : World} {g : Nat} {A0 : Option Addr} {c0 : Nat} {f0 : List Int} {f1 : Int} (h : W.heap[g]? = some (.cells #[.slice A0 f0.length c0, .int .i64 f1] 116 (0, 0))) : W.cell? ⟨g, 0, none⟩ = some (.slice A0 f0.length c0) := (blk_cell h 0).trans rfl
theorem cellS116_1 {W : World} {g : Nat} {A0 : Option Addr} {c0 : Nat} {f0 : List Int} {f1 : Int} (h : W.heap[g]? = some (.cells #[.slice A0 f0.length c0, .int .i64 f1] 116 (0, 0))) : W.cell? ⟨g, 1, none⟩ = some (.int .i64 f1) := (blk_cell h 1).trans rfl
theorem IsS116.set_1 {w0 W : World} {g : Nat} {f0 : List Int} {f1 : Int} (h : IsS116 w0 W g f0 f1) (x : Int) : IsS116 w0 (W.setCell ⟨g, 1, none⟩ (.int .i64 x)) g f0 x := by
  obtain ⟨A0, c0, hb, hg, hr0⟩ := h
  exact ⟨A0, c0, by simpa using blk_set hb 1 (.int .i64 x), hg, hr0⟩
theorem z70_1 {p : Prop} (h : p := by repeat (first | (with_reducible first | exact HB.out | apply below_alloc | apply pw_below_drewN | apply below_drew1) | exact HB.out)) : p := h
theorem z70_2 {p : Prop} (h : p := by repeat (first | (with_reducible first | exact HBW.out | apply below_alloc | apply pw_below_drewN | apply below_drew1) | exact HBW.out)) : p := h
/-! ### spec_l6Open: function 70 -/
def spec_l6Open.f (l0 : List Int) : Option (List Int × Int) := if (l0.length : Int) > 2000 then (if 2000 ≤ (l0.length : Int) then (some (l0.take 2000, 0)) else (none)) else (some (l0, 0))
set_option maxHeartbeats 8000000 in
set_option maxRecDepth 100000 in
theorem spec_l6Open.calls (A0 : Option Addr) (c0 : Nat) (l0 : List Int) (r1 : List Int) (r2 : Int) (w0 w : World) (hB : Below w0.heap.size w0 w) (hr0 : Kd.C (Kd.int .u8) w0 A0 l0.length l0) (hc0 : l0.length ≤ c0) (h : spec_l6Open.f l0 = some (r1, r2)) :
  Calls Try.prog 70 #[.slice A0 l0.length c0] w fun e w' => ∃ g_ : Nat, e = .returned (.pointer (some ⟨g_, 0, none⟩)) ∧ IsS116 w0 w' g_ r1 r2 ∧ Below w0.heap.size w0 w' ∧ Below w.heap.size w w' := by
 have hu116 := Try.underlying116
 have HR0 := am_ hr0
 have HC0 := am_ hc0
 clear hr0 hc0
 have HBW := am_ (Below.refl w.heap.size w)
 have HW0 := am_ hB.size
 have HB := am_ hB
 clear hB
 have H : (if (l0.length : Int) > 2000 then (if 2000 ≤ (l0.length : Int) then (some (l0.take 2000, 0)) else (none)) else (some (l0, 0))) = some (r1, r2) := h
 clear h
 by_cases c2 : (l0.length : Int) > 2000
 ·rw [if_pos c2] at H
  have c2b0 : decide (2000 < (l0.length : Int)) = true := decide_eq_true c2
  have c2b1 : decide (2000 < l0.length) = true := decide_eq_true (by omega)
  clear c2
  by_cases c3 : 2000 ≤ (l0.length : Int)
  ·rw [if_pos c3] at H
   have c3b0 := eq_true c3
   have c3b1 : decide (2000 ≤ (l0.length : Int)) = true := decide_eq_true c3
   clear c3
   simp only [Option.some.injEq, Prod.mk.injEq] at H
   obtain ⟨rfl, rfl⟩ := H
   obtain ⟨i04, hi04, _, hsz4, _⟩ := info_parts info5
   obtain ⟨hcut4, hA4, hC4⟩ := print_take_of (P := Try.prog) (Value.int .u8) 0 30 5 .i64 Try.underlying30 hi04 hsz4 A0 c0 l0 2000 (by omega) (of_decide_eq_true (by first | (with_reducible assumption) | assumption)) HC0.out
   have HR179 := am_ (Kd.C_of_reads (h1 := fun _ => rfl) (hA4 _ (Kd.reads_of_C HR0.out)))
   have HC179 := am_ hC4
   clear hA4 hC4 hi04 hsz4
   go_enter Try.func70, Try.ntmps70
   go_wp2_with (first | ((with_reducible refine gate_dst (N := 10) rfl ?_); refine box_event ?hg (N := 10) ?hd (cs := #[.slice A0 (l0.take 2000).length c0, .int .i64 0]) (t := 116) ?hr ?_; (case hd => rfl); (case hg => rfl); (case hr => first | (go_simp; done) | (go_simp; rfl)); intro gb180 hg w5 hbox hb; have n0_ := am_ (below_step HBW.out hb); have n1_ := am_ (below_step z70_1 hb); have n2_ := am_ (hbox); have n3_ := am_ (by rw [hg]; exact (below_size z70_2) : w.heap.size ≤ gb180); have n4_ := am_ (Nat.le_trans HW0.out (by rw [hg]; exact (below_size z70_2) : w.heap.size ≤ gb180) : w0.heap.size ≤ gb180); clear HBW HB; have HBW := n0_; have HB := n1_; have BK180 := n2_; have GW180 := n3_; have GE180 := n4_; clear n0_ n1_ n2_ n3_ n4_; clear hb hbox hg))
   go_ret
   exact ⟨_, rfl, (show IsS116 w0 _ gb180 (l0.take 2000) 0 from ⟨_, _, bu BK180.out, GE180.out, HR179.out⟩), by repeat (first | (with_reducible first | exact HB.out | apply below_alloc | apply pw_below_drewN | apply below_drew1 | refine below_set ?_ GE180.out) | exact HB.out), by repeat (first | (with_reducible first | exact HBW.out | apply below_alloc | apply pw_below_drewN | apply below_drew1 | refine below_set ?_ GW180.out) | exact HBW.out)⟩
  rw [if_neg c3] at H
  exact absurd H (by simp)
 rw [if_neg c2] at H
 have c2b0 : decide (2000 < (l0.length : Int)) = false := decide_eq_false c2
 have c2b1 : decide (2000 < l0.length) = false := decide_eq_false (by omega)
 clear c2
 simp only [Option.some.injEq, Prod.mk.injEq] at H
 obtain ⟨rfl, rfl⟩ := H
 go_enter Try.func70, Try.ntmps70
 go_wp2_with (first | ((with_reducible refine gate_dst (N := 10) rfl ?_); refine box_event ?hg (N := 10) ?hd (cs := #[.slice A0 l0.length c0, .int .i64 0]) (t := 116) ?hr ?_; (case hd => rfl); (case hg => rfl); (case hr => first | (go_simp; done) | (go_simp; rfl)); intro gb181 hg w6 hbox hb; have n0_ := am_ (below_step HBW.out hb); have n1_ := am_ (below_step z70_1 hb); have n2_ := am_ (hbox); have n3_ := am_ (by rw [hg]; exact (below_size z70_2) : w.heap.size ≤ gb181); have n4_ := am_ (Nat.le_trans HW0.out (by rw [hg]; exact (below_size z70_2) : w.heap.size ≤ gb181) : w0.heap.size ≤ gb181); clear HBW HB; have HBW := n0_; have HB := n1_; have BK181 := n2_; have GW181 := n3_; have GE181 := n4_; clear n0_ n1_ n2_ n3_ n4_; clear hb hbox hg))
 go_ret
 exact ⟨_, rfl, (show IsS116 w0 _ gb181 l0 0 from ⟨_, _, bu BK181.out, GE181.out, HR0.out⟩), by repeat (first | (with_reducible first | exact HB.out | apply below_alloc | apply pw_below_drewN | apply below_drew1 | refine below_set ?_ GE181.out) | exact HB.out), by repeat (first | (with_reducible first | exact HBW.out | apply below_alloc | apply pw_below_drewN | apply below_drew1 | refine below_set ?_ GW181.out) | exact HBW.out)⟩

end Go.Proofs.Ytefkbmhkhpekjaa.PB

namespace Go.Proofs.Ytefkbmhkhpekjaa.PB
open Go.RowKit Go.Proofs.YtefkbmhkhpekjaaW.PrintWords Go.Proofs.YtefkbmhkhpekjaaW.PrintLast Go.Proofs.YtefkbmhkhpekjaaW.PrintMore
attribute [local go_sem] max2_int min2_int max_two min_two max_three min_three max_four min_four   -- for this text's walks alone
open Go.Proofs.YtefkbmhkhpekjaaMine
set_option linter.unusedVariables false
set_option linter.unusedSimpArgs false

theorem z71_1 {p : Prop} (h : p := by first | (with_reducible assumption) | assumption) : p := h
theorem z71_2 {p : Prop} (h : p := by repeat (first | (with_reducible first | exact HK.out | apply KeepBut.set_ | apply keep_drewN | apply keep_drew | apply keep_alloc) | exact HK.out)) : p := h
theorem z71_3 {p : Prop} (h : p := by repeat (first | (with_reducible first | exact HI0.out | apply IsS116.alloc | apply IsS116.drewN | apply IsS116.drew | apply IsS116.set_1) | exact HI0.out)) : p := h
theorem z71_4 {p : Prop} (h : p := by repeat (first | (with_reducible first | exact HB.out | apply below_alloc | apply pw_below_drewN | apply below_drew1 | refine below_set ?_ (IsS116.ge HI0.out)) | exact HB.out)) : p := h
/-! ### spec_l6Rd_pick: function 71 -/
def spec_l6Rd_pick.j0 : Nat → Int → Bool → List Int → Int → Option (Int × Int)
  | 0, _, _, _, _ => none
  | k + 1, x1, x24, x00, x01 => if x24 = true then (some (0, x01)) else (if (wrap64 (x01 - 1)) < (x00.length : Int) then (if 0 ≤ (wrap64 (x01 - 1)) then (if x1 = 0 then (none) else (some (Int.tmod (wrap64 (rd x00 (wrap64 (x01 - 1)))) x1, x01))) else (none)) else (if (x00.length : Int) = 0 then (none) else (if 0 ≤ (Int.tmod (wrap64 (x01 - 1)) (x00.length : Int)) then (if (Int.tmod (wrap64 (x01 - 1)) (x00.length : Int)) < (x00.length : Int) then (if 0 ≤ (Int.tmod (wrap64 ((wrap64 ((wrap64 (x01 - 1)) * 7)) + 3)) (x00.length : Int)) then (if (Int.tmod (wrap64 ((wrap64 ((wrap64 (x01 - 1)) * 7)) + 3)) (x00.length : Int)) < (x00.length : Int) then (if x1 = 0 then (none) else (some (Int.tmod (Go.bits .xor .i64 (wrap64 ((wrap64 ((wrap64 ((wrap64 ((wrap64 (rd x00 (Int.tmod (wrap64 (x01 - 1)) (x00.length : Int)))) * 131)) + (wrap64 ((wrap64 (rd x00 (Int.tmod (wrap64 ((wrap64 ((wrap64 (x01 - 1)) * 7)) + 3)) (x00.length : Int)))) * 1117)))) + (wrap64 ((wrap64 (x01 - 1)) * 29)))) + (wrap64 ((wrap64 (Int.tdiv (wrap64 (x01 - 1)) (x00.length : Int))) * 53)))) (wrap64 (Int.tdiv (wrap64 ((wrap64 ((wrap64 ((wrap64 ((wrap64 (rd x00 (Int.tmod (wrap64 (x01 - 1)) (x00.length : Int)))) * 131)) + (wrap64 ((wrap64 (rd x00 (Int.tmod (wrap64 ((wrap64 ((wrap64 (x01 - 1)) * 7)) + 3)) (x00.length : Int)))) * 1117)))) + (wrap64 ((wrap64 (x01 - 1)) * 29)))) + (wrap64 ((wrap64 (Int.tdiv (wrap64 (x01 - 1)) (x00.length : Int))) * 53)))) 64))) x1, x01))) else (none)) else (none)) else (none)) else (none))))
def spec_l6Rd_pick.f (k : Nat) (s0_0 : List Int) (s0_1 : Int) (a1 : Int) : Option (Int × Int) := if a1 < 1 then (spec_l6Rd_pick.j0 k a1 true s0_0 (wrap64 (s0_1 + 1))) else (spec_l6Rd_pick.j0 k a1 ((s0_0.length : Int) == 0) s0_0 (wrap64 (s0_1 + 1)))
theorem spec_l6Rd_pick.mono_l : ∀ k, (∀ y0 y1 y2 y3, LeO (spec_l6Rd_pick.j0 k y0 y1 y2 y3) (spec_l6Rd_pick.j0 (k + 1) y0 y1 y2 y3))
  | 0 => fun _ _ _ _ r h => by simp [spec_l6Rd_pick.j0] at h
  | k + 1 => by
    have ih0 := spec_l6Rd_pick.mono_l k
    intro y0 y1 y2 y3
    unfold spec_l6Rd_pick.j0
    repeat' first
    | (with_reducible exact ih0 _ _ _ _)
    | (with_reducible exact LeO.refl _)
    | (with_reducible exact LeO.none _)
    | (with_reducible refine LeO.ite ?_ ?_)
    | (with_reducible refine LeO.bind ?_ (fun _ => ?_))
    | exact ih0 _ _ _ _
    | exact LeO.none _
    | refine LeO.ite ?_ ?_
    | refine LeO.bind ?_ (fun _ => ?_)
theorem spec_l6Rd_pick.mono : ∀ a0 a1 a2 k, LeO (spec_l6Rd_pick.f k a0 a1 a2) (spec_l6Rd_pick.f (k + 1) a0 a1 a2) := by
  intro a0 a1 a2 k
  have ih0 := spec_l6Rd_pick.mono_l k
  unfold spec_l6Rd_pick.f
  repeat' first
      | (with_reducible exact ih0 _ _ _ _)
      | (with_reducible exact LeO.refl _)
      | (with_reducible exact LeO.none _)
      | (with_reducible refine LeO.ite ?_ ?_)
      | (with_reducible refine LeO.bind ?_ (fun _ => ?_))
      | exact ih0 _ _ _ _
      | exact LeO.none _
      | refine LeO.ite ?_ ?_
      | refine LeO.bind ?_ (fun _ => ?_)
set_option maxHeartbeats 8000000 in
set_option maxRecDepth 100000 in
theorem spec_l6Rd_pick.calls (k : Nat) (g : Nat) (s0_0 : List Int) (s0_1 : Int) (a1 : Int) (r1 : Int) (r2 : Int) (w0 w : World) (hI : IsS116 w0 w g s0_0 s0_1) (hB : Below w0.heap.size w0 w) (h : spec_l6Rd_pick.f k s0_0 s0_1 a1 = some (r1, r2)) :
  Calls Try.prog 71 #[.pointer (some ⟨g, 0, none⟩), .int .i64 a1] w fun e w' => e = .returned (.int .i64 r1) ∧ IsS116 w0 w' g s0_0 r2 ∧ Below w0.heap.size w0 w' ∧ KeepBut w w' g none := by
 have HI0 := am_ hI
 have HK := am_ (KeepBut.refl w g none)
 have HL := am_ hB.size
 clear hI
 have HW0 := am_ hB.size
 have HB := am_ hB
 clear hB
 have H : (if a1 < 1 then (spec_l6Rd_pick.j0 k a1 true s0_0 (wrap64 (s0_1 + 1))) else (spec_l6Rd_pick.j0 k a1 ((s0_0.length : Int) == 0) s0_0 (wrap64 (s0_1 + 1)))) = some (r1, r2) := h
 clear h
 have HC3 := am_ H
 clear H
 obtain ⟨ASz4_0, cSz4_0, HGz4, hgz4, HSz4_0⟩ := HI0.out
 have hcz4_0 := cellS116_0 HGz4
 have hcz4_1 := cellS116_1 HGz4
 have hfz4_1 := blk_frozen HGz4 1
 clear HGz4 hgz4
 go_enter Try.func71, Try.ntmps71
 go_upto_region 2 with (fail)
 repeat (go_quiet (fail); go_upto_region 2 with (fail))
 go_cut [24] (fun v24 wc => ∃ (kq : Nat) (x24_2 : Bool), v24 = .bool x24_2 ∧ Aside0 (spec_l6Rd_pick.j0 kq a1 x24_2 s0_0 (wrap64 (s0_1 + 1)) = some (r1, r2)) ∧ Aside0 (kq ≤ k) ∧ Aside0 (IsS116 w0 wc g s0_0 (wrap64 (s0_1 + 1))) ∧ Aside0 (KeepBut w wc g none) ∧ Aside0 (Below w0.heap.size w0 wc))
 case first =>
  have H := HC3.out
  clear HC3
  by_cases c5 : a1 < 1
  ·rw [if_pos c5] at H
   have c5b0 : decide (a1 < 1) = true := decide_eq_true c5
   clear c5
   (first | rw [c5b0] | (simp only [i64_w, i32_w]; rw [c5b0]) | skip)
   have H' := am_ H
   clear H
   go_wp2
   repeat (go_quiet (fail); try go_wp2)
   go_meet
   case rel => exact ⟨_, (true), (by first | rfl | (simp; done) | (simp [*]; done)), H', ⟨by first | omega | exact Nat.le_refl _⟩, ⟨z71_3⟩, ⟨z71_2⟩, ⟨z71_4⟩⟩
  rw [if_neg c5] at H
  have c5b0 : decide (a1 < 1) = false := decide_eq_false c5
  clear c5
  (first | rw [c5b0] | (simp only [i64_w, i32_w]; rw [c5b0]) | skip)
  have H' := am_ H
  clear H
  obtain ⟨ASz6_0, cSz6_0, HGz6, hgz6, HSz6_0⟩ := HI0.out
  have hcz6_0 := cellS116_0 HGz6
  have hcz6_1 := cellS116_1 HGz6
  have hfz6_1 := blk_frozen HGz6 1
  clear HGz6 hgz6
  go_wp2
  repeat (go_quiet (fail); try go_wp2)
  go_meet
  case rel => exact ⟨_, (((s0_0.length : Int) == 0)), (by first | rfl | (simp; done) | (simp [*]; done)), H', ⟨by first | omega | exact Nat.le_refl _⟩, ⟨z71_3⟩, ⟨z71_2⟩, ⟨z71_4⟩⟩
 case rest =>
  clear HC3
  obtain ⟨kq, x24_2, rfl, HA, HJ2, HI0, HK, HB⟩ := hcut
  cases kq with
  | zero => exact absurd HA.out (by simp [spec_l6Rd_pick.j0])
  | succ kj2 =>
   have H := HA.out
   clear HA
   simp only [spec_l6Rd_pick.j0] at H
   by_cases c7 : x24_2 = true
   ·subst c7
    have H1 : (some (0, (wrap64 (s0_1 + 1)))) = some (r1, r2) := by rw [if_pos rfl] at H; exact H
    clear H
    have H := H1
    clear H1
    simp only [Option.some.injEq, Prod.mk.injEq] at H
    obtain ⟨rfl, rfl⟩ := H
    go_wp2
    repeat (go_quiet (fail); try go_wp2)
    go_ret
    exact ⟨by first | rfl | (simp [errW_none, errW_some] <;> rfl) | (simp [*, errW_none, errW_some] <;> rfl), z71_3, z71_4, z71_2⟩
   replace c7 := Bool.eq_false_iff.mpr c7
   subst c7
   have H1 : (if (wrap64 ((wrap64 (s0_1 + 1)) - 1)) < (s0_0.length : Int) then (if 0 ≤ (wrap64 ((wrap64 (s0_1 + 1)) - 1)) then (if a1 = 0 then (none) else (some (Int.tmod (wrap64 (rd s0_0 (wrap64 ((wrap64 (s0_1 + 1)) - 1)))) a1, (wrap64 (s0_1 + 1))))) else (none)) else (if (s0_0.length : Int) = 0 then (none) else (if 0 ≤ (Int.tmod (wrap64 ((wrap64 (s0_1 + 1)) - 1)) (s0_0.length : Int)) then (if (Int.tmod (wrap64 ((wrap64 (s0_1 + 1)) - 1)) (s0_0.length : Int)) < (s0_0.length : Int) then (if 0 ≤ (Int.tmod (wrap64 ((wrap64 ((wrap64 ((wrap64 (s0_1 + 1)) - 1)) * 7)) + 3)) (s0_0.length : Int)) then (if (Int.tmod (wrap64 ((wrap64 ((wrap64 ((wrap64 (s0_1 + 1)) - 1)) * 7)) + 3)) (s0_0.length : Int)) < (s0_0.length : Int) then (if a1 = 0 then (none) else (some (Int.tmod (Go.bits .xor .i64 (wrap64 ((wrap64 ((wrap64 ((wrap64 ((wrap64 (rd s0_0 (Int.tmod (wrap64 ((wrap64 (s0_1 + 1)) - 1)) (s0_0.length : Int)))) * 131)) + (wrap64 ((wrap64 (rd s0_0 (Int.tmod (wrap64 ((wrap64 ((wrap64 ((wrap64 (s0_1 + 1)) - 1)) * 7)) + 3)) (s0_0.length : Int)))) * 1117)))) + (wrap64 ((wrap64 ((wrap64 (s0_1 + 1)) - 1)) * 29)))) + (wrap64 ((wrap64 (Int.tdiv (wrap64 ((wrap64 (s0_1 + 1)) - 1)) (s0_0.length : Int))) * 53)))) (wrap64 (Int.tdiv (wrap64 ((wrap64 ((wrap64 ((wrap64 ((wrap64 (rd s0_0 (Int.tmod (wrap64 ((wrap64 (s0_1 + 1)) - 1)) (s0_0.length : Int)))) * 131)) + (wrap64 ((wrap64 (rd s0_0 (Int.tmod (wrap64 ((wrap64 ((wrap64 ((wrap64 (s0_1 + 1)) - 1)) * 7)) + 3)) (s0_0.length : Int)))) * 1117)))) + (wrap64 ((wrap64 ((wrap64 (s0_1 + 1)) - 1)) * 29)))) + (wrap64 ((wrap64 (Int.tdiv (wrap64 ((wrap64 (s0_1 + 1)) - 1)) (s0_0.length : Int))) * 53)))) 64))) a1, (wrap64 (s0_1 + 1))))) else (none)) else (none)) else (none)) else (none)))) = some (r1, r2) := by rw [if_neg (show ¬ (false = true) by decide)] at H; exact H
   clear H
   have H := H1
   clear H1
   by_cases c8 : (wrap64 ((wrap64 (s0_1 + 1)) - 1)) < (s0_0.length : Int)
   ·rw [if_pos c8] at H
    have c8b0 : decide ((wrap64 ((wrap64 (s0_1 + 1)) - 1)) < (s0_0.length : Int)) = true := decide_eq_true c8
    clear c8
    obtain ⟨ji9, hji9⟩ : ∃ j_ : Int, (wrap64 ((wrap64 (s0_1 + 1)) - 1)) = j_ := ⟨_, rfl⟩
    replace H : (if 0 ≤ (ji9) then (if a1 = 0 then (none) else (some (Int.tmod (wrap64 (rd s0_0 (ji9))) a1, (wrap64 (s0_1 + 1))))) else (none)) = some (r1, r2) := by first | (rw [hji9] at H; exact H) | (simp only [hji9] at H ⊢; exact H)
    (try rw [hji9] at c8b0)
    have hji9w : (IntKind.i64.wrap ((wrap64 (s0_1 + 1)) - 1)) = ji9 := (i64_w _).trans hji9
    by_cases c10 : 0 ≤ (ji9)
    ·rw [if_pos c10] at H
     have c10b0 : decide (0 ≤ (ji9)) = true := decide_eq_true c10
     clear c10
     by_cases c11 : a1 = 0
     ·rw [if_pos c11] at H
      exact absurd H (by simp)
     rw [if_neg c11] at H
     have c11b0 : (a1 == 0) = false := beq_eq_false_iff_ne.mpr c11
     have c11b1 : (a1 != 0) = true := bne_iff_ne.mpr c11
     simp only [Option.some.injEq, Prod.mk.injEq] at H
     obtain ⟨rfl, rfl⟩ := H
     obtain ⟨ASz12_0, cSz12_0, HGz12, hgz12, HSz12_0⟩ := HI0.out
     have hcz12_0 := cellS116_0 HGz12
     have hcz12_1 := cellS116_1 HGz12
     have hfz12_1 := blk_frozen HGz12 1
     clear HGz12 hgz12
     have p182 : 0 ≤ ((ji9) : Int) := of_decide_eq_true z71_1
     have q182 : (ji9) < (s0_0.length : Int) := of_decide_eq_true z71_1
     obtain ⟨ad182, e182, hx182_0⟩ := Kd.at_int HSz12_0 (ji9) p182 q182
     cases e182
     replace hx182_0 := pw_cell_below HB.out hx182_0
     replace p182 := eq_true p182
     replace q182 := eq_true q182
     go_wp2
     repeat (go_quiet (fail); try go_wp2)
     go_ret
     exact ⟨by first | rfl | (simp [errW_none, errW_some] <;> rfl) | (simp only [← hji9]; first | rfl | (simp [errW_none, errW_some] <;> rfl)) | (simp [*, errW_none, errW_some] <;> rfl), z71_3, z71_4, z71_2⟩
    rw [if_neg c10] at H
    exact absurd H (by simp)
   rw [if_neg c8] at H
   have c8b0 : decide ((wrap64 ((wrap64 (s0_1 + 1)) - 1)) < (s0_0.length : Int)) = false := decide_eq_false c8
   clear c8
   by_cases c13 : (s0_0.length : Int) = 0
   ·rw [if_pos c13] at H
    exact absurd H (by simp)
   rw [if_neg c13] at H
   have c13b0 : ((s0_0.length : Int) == 0) = false := beq_eq_false_iff_ne.mpr c13
   have c13b1 : ((s0_0.length : Int) != 0) = true := bne_iff_ne.mpr c13
   have c13b2 : ¬ (s0_0 = []) := fun h_ => c13 (by rw [h_]; rfl)
   obtain ⟨ji14, hji14⟩ : ∃ j_ : Int, (Int.tmod (wrap64 ((wrap64 (s0_1 + 1)) - 1)) (s0_0.length : Int)) = j_ := ⟨_, rfl⟩
   replace H : (if 0 ≤ (ji14) then (if (ji14) < (s0_0.length : Int) then (if 0 ≤ (Int.tmod (wrap64 ((wrap64 ((wrap64 ((wrap64 (s0_1 + 1)) - 1)) * 7)) + 3)) (s0_0.length : Int)) then (if (Int.tmod (wrap64 ((wrap64 ((wrap64 ((wrap64 (s0_1 + 1)) - 1)) * 7)) + 3)) (s0_0.length : Int)) < (s0_0.length : Int) then (if a1 = 0 then (none) else (some (Int.tmod (Go.bits .xor .i64 (wrap64 ((wrap64 ((wrap64 ((wrap64 ((wrap64 (rd s0_0 (ji14))) * 131)) + (wrap64 ((wrap64 (rd s0_0 (Int.tmod (wrap64 ((wrap64 ((wrap64 ((wrap64 (s0_1 + 1)) - 1)) * 7)) + 3)) (s0_0.length : Int)))) * 1117)))) + (wrap64 ((wrap64 ((wrap64 (s0_1 + 1)) - 1)) * 29)))) + (wrap64 ((wrap64 (Int.tdiv (wrap64 ((wrap64 (s0_1 + 1)) - 1)) (s0_0.length : Int))) * 53)))) (wrap64 (Int.tdiv (wrap64 ((wrap64 ((wrap64 ((wrap64 ((wrap64 (rd s0_0 (ji14))) * 131)) + (wrap64 ((wrap64 (rd s0_0 (Int.tmod (wrap64 ((wrap64 ((wrap64 ((wrap64 (s0_1 + 1)) - 1)) * 7)) + 3)) (s0_0.length : Int)))) * 1117)))) + (wrap64 ((wrap64 ((wrap64 (s0_1 + 1)) - 1)) * 29)))) + (wrap64 ((wrap64 (Int.tdiv (wrap64 ((wrap64 (s0_1 + 1)) - 1)) (s0_0.length : Int))) * 53)))) 64))) a1, (wrap64 (s0_1 + 1))))) else (none)) else (none)) else (none)) else (none)) = some (r1, r2) := by first | (rw [hji14] at H; exact H) | (simp only [hji14] at H ⊢; exact H)
   by_cases c15 : 0 ≤ (ji14)
   ·rw [if_pos c15] at H
    have c15b0 : decide (0 ≤ (ji14)) = true := decide_eq_true c15
    clear c15
    by_cases c16 : (ji14) < (s0_0.length : Int)
    ·rw [if_pos c16] at H
     have c16b0 : decide ((ji14) < (s0_0.length : Int)) = true := decide_eq_true c16
     clear c16
     obtain ⟨ji17, hji17⟩ : ∃ j_ : Int, (Int.tmod (wrap64 ((wrap64 ((wrap64 ((wrap64 (s0_1 + 1)) - 1)) * 7)) + 3)) (s0_0.length : Int)) = j_ := ⟨_, rfl⟩
     replace H : (if 0 ≤ (ji17) then (if (ji17) < (s0_0.length : Int) then (if a1 = 0 then (none) else (some (Int.tmod (Go.bits .xor .i64 (wrap64 ((wrap64 ((wrap64 ((wrap64 ((wrap64 (rd s0_0 (ji14))) * 131)) + (wrap64 ((wrap64 (rd s0_0 (ji17))) * 1117)))) + (wrap64 ((wrap64 ((wrap64 (s0_1 + 1)) - 1)) * 29)))) + (wrap64 ((wrap64 (Int.tdiv (wrap64 ((wrap64 (s0_1 + 1)) - 1)) (s0_0.length : Int))) * 53)))) (wrap64 (Int.tdiv (wrap64 ((wrap64 ((wrap64 ((wrap64 ((wrap64 (rd s0_0 (ji14))) * 131)) + (wrap64 ((wrap64 (rd s0_0 (ji17))) * 1117)))) + (wrap64 ((wrap64 ((wrap64 (s0_1 + 1)) - 1)) * 29)))) + (wrap64 ((wrap64 (Int.tdiv (wrap64 ((wrap64 (s0_1 + 1)) - 1)) (s0_0.length : Int))) * 53)))) 64))) a1, (wrap64 (s0_1 + 1))))) else (none)) else (none)) = some (r1, r2) := by first | (rw [hji17] at H; exact H) | (simp only [hji17] at H ⊢; exact H)
     by_cases c18 : 0 ≤ (ji17)
     ·rw [if_pos c18] at H
      have c18b0 : decide (0 ≤ (ji17)) = true := decide_eq_true c18
      clear c18
      by_cases c19 : (ji17) < (s0_0.length : Int)
      ·rw [if_pos c19] at H
       have c19b0 : decide ((ji17) < (s0_0.length : Int)) = true := decide_eq_true c19
       clear c19
       by_cases c20 : a1 = 0
       ·rw [if_pos c20] at H
        exact absurd H (by simp)
       rw [if_neg c20] at H
       have c20b0 : (a1 == 0) = false := beq_eq_false_iff_ne.mpr c20
       have c20b1 : (a1 != 0) = true := bne_iff_ne.mpr c20
       simp only [Option.some.injEq, Prod.mk.injEq] at H
       obtain ⟨rfl, rfl⟩ := H
       obtain ⟨ASz21_0, cSz21_0, HGz21, hgz21, HSz21_0⟩ := HI0.out
       have hcz21_0 := cellS116_0 HGz21
       have hcz21_1 := cellS116_1 HGz21
       have hfz21_1 := blk_frozen HGz21 1
       clear HGz21 hgz21
       have p183 : 0 ≤ ((ji14) : Int) := of_decide_eq_true z71_1
       have q183 : (ji14) < (s0_0.length : Int) := of_decide_eq_true z71_1
       obtain ⟨ad183, e183, hx183_0⟩ := Kd.at_int HSz21_0 (ji14) p183 q183
       cases e183
       replace hx183_0 := pw_cell_below HB.out hx183_0
       replace p183 := eq_true p183
       replace q183 := eq_true q183
       have p184 : 0 ≤ ((ji17) : Int) := of_decide_eq_true z71_1
       have q184 : (ji17) < (s0_0.length : Int) := of_decide_eq_true z71_1
       obtain ⟨ad184, e184, hx184_0⟩ := Kd.at_int HSz21_0 (ji17) p184 q184
       obtain rfl : ad183 = ad184 := (by injection e184)
       replace hx184_0 := pw_cell_below HB.out hx184_0
       replace p184 := eq_true p184
       replace q184 := eq_true q184
       go_wp2
       repeat (go_quiet (fail); try go_wp2)
       go_ret
       exact ⟨by first | rfl | (simp [errW_none, errW_some] <;> rfl) | (simp only [← hji14, ← hji17]; first | rfl | (simp [errW_none, errW_some] <;> rfl)) | (simp [*, errW_none, errW_some] <;> rfl), z71_3, z71_4, z71_2⟩
      rw [if_neg c19] at H
      exact absurd H (by simp)
     rw [if_neg c18] at H
     exact absurd H (by simp)
    rw [if_neg c16] at H
    exact absurd H (by simp)
   rw [if_neg c15] at H
   exact absurd H (by simp)

end Go.Proofs.Ytefkbmhkhpekjaa.PB

namespace Go.Proofs.Ytefkbmhkhpekjaa.Pure
open Go.RowKit Go.Proofs.Ytefkbmhkhpekjaa.PB Go.Proofs.YtefkbmhkhpekjaaW.PrintWords Go.Proofs.YtefkbmhkhpekjaaW.PrintLast

theorem w64 {x : Int} (h0 : -9223372036854775808 ≤ x) (h1 : x < 9223372036854775808) : wrap64 x = x := by unfold wrap64; omega
theorem tmod_lt {a b : Int} (ha : 0 ≤ a) (hb : 0 < b) : 0 ≤ Int.tmod a b ∧ Int.tmod a b < b :=
  ⟨Int.tmod_nonneg _ ha, Int.tmod_lt_of_pos _ hb⟩
theorem xor_nonneg {x y : Int} (hx : 0 ≤ x) (hx1 : x < 4611686018427387904) (hy : 0 ≤ y) (hy1 : y < 4611686018427387904) : 0 ≤ Go.bits .xor .i64 x y := by
  obtain ⟨a, rfl⟩ := Int.eq_ofNat_of_zero_le hx
  obtain ⟨b, rfl⟩ := Int.eq_ofNat_of_zero_le hy
  have hp : (2 : Nat) ^ IntKind.i64.bits = 18446744073709551616 := by decide
  have ha' : a % 2 ^ IntKind.i64.bits = a := Nat.mod_eq_of_lt (by rw [hp]; omega)
  have hb' : b % 2 ^ IntKind.i64.bits = b := Nat.mod_eq_of_lt (by rw [hp]; omega)
  simp only [Go.bits, BitVec.ofInt_natCast, BitVec.toNat_xor, BitVec.toNat_ofNat, ha', hb']
  have hx2 : a ^^^ b < 2 ^ 62 := Nat.xor_lt_two_pow (by omega) (by omega)
  generalize a ^^^ b = c at *
  rw [IntKind.wrap_i64]
  omega
theorem tdiv_le {a b : Int} (ha : 0 ≤ a) (hb : 0 < b) : 0 ≤ Int.tdiv a b ∧ Int.tdiv a b ≤ a := by
  rw [Int.tdiv_eq_ediv_of_nonneg ha]
  exact ⟨Int.ediv_nonneg ha (by omega), Int.ediv_le_self _ ha⟩
theorem rd_u8 {b : List Int} (hb : ∀ x ∈ b, 0 ≤ x ∧ x ≤ 255) (i : Int) : 0 ≤ rd b i ∧ rd b i ≤ 255 := by
  unfold rd
  rw [List.getD_eq_getElem?_getD]
  rcases h : b[i.toNat]? with _ | v
  · simp
  · simpa using hb v (List.mem_of_getElem? h)

/-- The reader at place p of a code b of bytes: one more place; a number below n. -/
theorem pick_some (k : Nat) (b : List Int) (p n : Int) (hl : b.length ≤ 2000) (hb : ∀ x ∈ b, 0 ≤ x ∧ x ≤ 255) (h0 : 0 ≤ p) (hp : p ≤ 100000000) :
    ∃ r, spec_l6Rd_pick.f (k + 1) b p n = some (r, p + 1) ∧ 0 ≤ r ∧ (1 ≤ n → r < n) ∧ (n < 1 → r = 0) := by
  unfold spec_l6Rd_pick.f
  have e1 : wrap64 (p + 1) = p + 1 := w64 (by omega) (by omega)
  have e2 : wrap64 (p + 1 - 1) = p := by rw [w64 (by omega) (by omega)]; omega
  rw [e1]
  by_cases hn : n < 1
  · rw [if_pos hn]
    exact ⟨0, by simp [spec_l6Rd_pick.j0], by omega, by omega, fun _ => rfl⟩
  rw [if_neg hn]
  by_cases hz : b.length = 0
  · rw [show ((b.length : Int) == 0) = true by simp; exact List.eq_nil_of_length_eq_zero hz]
    exact ⟨0, by simp [spec_l6Rd_pick.j0], by omega, by omega, fun _ => rfl⟩
  rw [show ((b.length : Int) == 0) = false by simp; intro h; exact hz (by rw [h]; rfl)]
  simp only [spec_l6Rd_pick.j0, e2]
  rw [if_neg (by simp)]
  by_cases hc : p < (b.length : Int)
  · rw [if_pos hc, if_pos h0, if_neg (by omega)]
    have hr := rd_u8 hb p
    rw [w64 (x := rd b p) (by omega) (by omega)]
    have := tmod_lt hr.1 (show 0 < n by omega)
    exact ⟨_, rfl, this.1, fun _ => this.2, fun h => absurd h hn⟩
  · have hL : 0 < (b.length : Int) := by omega
    have m1 := tmod_lt h0 hL
    have e3 : wrap64 (p * 7) = p * 7 := w64 (by omega) (by omega)
    have e4 : wrap64 (p * 7 + 3) = p * 7 + 3 := w64 (by omega) (by omega)
    have m2 := tmod_lt (show 0 ≤ p * 7 + 3 by omega) hL
    rw [if_neg hc, if_neg (by omega), if_pos m1.1, if_pos m1.2, e3, e4, if_pos m2.1, if_pos m2.2, if_neg (by omega)]
    generalize Int.tmod p (b.length : Int) = i at *
    generalize Int.tmod (p * 7 + 3) (b.length : Int) = j at *
    have r1 := rd_u8 hb i
    have r2 := rd_u8 hb j
    have d1 := tdiv_le h0 hL
    generalize rd b i = x at *
    generalize rd b j = y at *
    generalize Int.tdiv p (b.length : Int) = z at *
    have a1 : wrap64 x = x := w64 (by omega) (by omega)
    have a2 : wrap64 (x * 131) = x * 131 := w64 (by omega) (by omega)
    have a3 : wrap64 y = y := w64 (by omega) (by omega)
    have a4 : wrap64 (y * 1117) = y * 1117 := w64 (by omega) (by omega)
    have a5 : wrap64 (x * 131 + y * 1117) = x * 131 + y * 1117 := w64 (by omega) (by omega)
    have a6 : wrap64 (p * 29) = p * 29 := w64 (by omega) (by omega)
    have a7 : wrap64 (x * 131 + y * 1117 + p * 29) = x * 131 + y * 1117 + p * 29 := w64 (by omega) (by omega)
    have a8 : wrap64 z = z := w64 (by omega) (by omega)
    have a9 : wrap64 (z * 53) = z * 53 := w64 (by omega) (by omega)
    have b1 : wrap64 (x * 131 + y * 1117 + p * 29 + z * 53) = x * 131 + y * 1117 + p * 29 + z * 53 := w64 (by omega) (by omega)
    rw [a1, a2, a3, a4, a5, a6, a7, a8, a9, b1]
    have hs : 0 ≤ x * 131 + y * 1117 + p * 29 + z * 53 := by omega
    have hs1 : x * 131 + y * 1117 + p * 29 + z * 53 < 4611686018427387904 := by omega
    generalize x * 131 + y * 1117 + p * 29 + z * 53 = s at *
    have d2 := tdiv_le hs (show (0 : Int) < 64 by omega)
    rw [w64 (x := Int.tdiv s 64) (by omega) (by omega)]
    have := tmod_lt (xor_nonneg hs hs1 d2.1 (by omega)) (show 0 < n by omega)
    exact ⟨_, rfl, this.1, fun _ => this.2, fun h => absurd h hn⟩
end Go.Proofs.Ytefkbmhkhpekjaa.Pure

namespace Go.Proofs.Ytefkbmhkhpekjaa.PB
open Go.RowKit Go.Proofs.YtefkbmhkhpekjaaW.PrintWords Go.Proofs.YtefkbmhkhpekjaaW.PrintLast Go.Proofs.YtefkbmhkhpekjaaW.PrintMore Go.Proofs.YtefkbmhkhpekjaaMine
set_option linter.unusedVariables false
variable {w0 w1 w w' : World} {g m : Nat} {b : List Int}
/-- The reader at block g stands at a place of at most m; of what lay in w1 it alone has turned, and nothing of w0. -/
structure Dw (w0 w1 w : World) (g : Nat) (b : List Int) (m : Nat) : Prop where
  st : ∃ s : Int, IsS116 w0 w g b s ∧ 0 ≤ s ∧ s ≤ m
  be : Below w0.heap.size w0 w
  ke : KeepBut w1 w g none
theorem Dw.lt (h : Dw w0 w1 w g b m) : g < w.heap.size := by obtain ⟨_, hi, _⟩ := h.st; exact hi.lt
theorem Dw.ge (h : Dw w0 w1 w g b m) : w0.heap.size ≤ g := by obtain ⟨_, hi, _⟩ := h.st; exact hi.ge
theorem Dw.sz (h : Dw w0 w1 w g b m) : w1.heap.size ≤ w.heap.size := h.ke.1
theorem Dw.here (h : Dw w0 w1 w g b m) : Dw w0 w w g b m := ⟨h.st, h.be, KeepBut.refl _ _ _⟩
theorem Dw.then {m' : Nat} (h : Dw w0 w1 w g b m) (k : Dw w0 w w' g b m') : Dw w0 w1 w' g b m' := ⟨k.st, k.be, h.ke.trans k.ke (.inl rfl)⟩
theorem Dw.more {m' : Nat} (h : Dw w0 w1 w g b m) (k : m ≤ m') : Dw w0 w1 w g b m' := ⟨by obtain ⟨s, a, c, d⟩ := h.st; exact ⟨s, a, c, by omega⟩, h.be, h.ke⟩
theorem Dw.below (h : Dw w0 w1 w g b m) (k : Below w.heap.size w w') : Dw w0 w1 w' g b m := ⟨by obtain ⟨s, a, c⟩ := h.st; exact ⟨s, a.below k, c⟩, below_then h.be h.be.size k, h.ke.trans (KeepBut.of_below k g none) (.inl rfl)⟩
theorem Dw.alloc (h : Dw w0 w1 w g b m) (o : Obj) : Dw w0 w1 (w.alloc o) g b m := h.below (below_alloc (Below.refl _ _) o)
theorem Dw.drew (h : Dw w0 w1 w g b m) : Dw w0 w1 w.drew g b m := h.below (below_drew (Below.refl _ _))
theorem Dw.grown {row : Option Nat} (h : Dw w0 w1 w g b m) (hg : g < w1.heap.size) (k : w.grownBy w' row) (hr : ∀ x, row = some x → w1.heap.size ≤ x) : Dw w0 w1 w' g b m :=
  ⟨by obtain ⟨s, a, c⟩ := h.st; exact ⟨s, a.grown k (fun e => by have := hr g e.symm; omega), c⟩, h.be.grown k h.be.size (fun x e => by have := hr x e; have := h.ge; omega),
    h.ke.trans (KeepBut.of_grown k g) (by cases row with | none => exact .inl rfl | some x => exact .inr ⟨x, rfl, hr x rfl⟩)⟩
theorem Dw.set (h : Dw w0 w1 w g b m) (hg : g < w1.heap.size) (p : Addr) (u : Value) (hp : w1.heap.size ≤ p.block) : Dw w0 w1 (w.setCell p u) g b m :=
  ⟨by obtain ⟨s, a, c⟩ := h.st; exact ⟨s, a.far (by omega) u, c⟩, h.be.setCell (by have := h.ge; omega) _, keep_far h.ke hp u⟩
/-- A number is drawn. -/
theorem pick_dw (n : Int) (hn : 1 ≤ n) (hl : b.length ≤ 2000) (hu : ∀ x ∈ b, 0 ≤ x ∧ x ≤ 255) (hm : m ≤ 1000000) (D : Dw w0 w1 w g b m) :
    Calls Try.prog 71 #[.pointer (some ⟨g, 0, none⟩), .int .i64 n] w fun e w' => ∃ v : Int, e = .returned (.int .i64 v) ∧ 0 ≤ v ∧ v < n ∧ Dw w0 w1 w' g b (m + 1) ∧ KeepBut w w' g none := by
  obtain ⟨s, hi, h0, h1⟩ := D.st
  obtain ⟨r, e, g0, g1, _⟩ := Pure.pick_some 0 b s n hl hu h0 (by omega)
  refine (spec_l6Rd_pick.calls _ g b s n r (s + 1) w0 w hi D.be e).mono ?_
  rintro e w' ⟨rfl, hi', hb', hk⟩
  exact ⟨r, rfl, g0, g1 hn, ⟨⟨s + 1, hi', by omega, by omega⟩, hb', D.ke.trans hk (.inl rfl)⟩, hk⟩
/- What is kept over a drawing. -/
theorem kR {α : Type} {d : Kd α} {e base B : Nat} {v : Value} {xs : List α} (k : KeepBut w w' g none) (hr : Kd.R d e w base (fun k => B ≤ k) v xs) (hg : g < B) : Kd.R d e w' base (fun k => B ≤ k) v xs := Kd.R_keep hr k (fun _ h => by omega)
theorem kR2 {α : Type} {d : Kd α} {e base B C : Nat} {v : Value} {xs : List α} (k : KeepBut w w' g none) (hr : Kd.R d e w base (fun k => B ≤ k ∧ k < C) v xs) (hg : g < B) : Kd.R d e w' base (fun k => B ≤ k ∧ k < C) v xs := Kd.R_keep hr k (fun _ h => by omega)
theorem kB {x : Nat} {o : Obj} (k : KeepBut w w' g none) (hb : w.heap[x]? = some o) (hx : g < x) : w'.heap[x]? = some o := k.blk hb (by omega) (by simp)
end Go.Proofs.Ytefkbmhkhpekjaa.PB

namespace Go.Proofs.Ytefkbmhkhpekjaa.PB
open Go.RowKit Go.Proofs.YtefkbmhkhpekjaaW.PrintWords Go.Proofs.YtefkbmhkhpekjaaW.PrintLast Go.Proofs.YtefkbmhkhpekjaaW.PrintMore Go.Proofs.YtefkbmhkhpekjaaMine
set_option linter.unusedVariables false
set_option linter.unusedSimpArgs false
/-- What stands while a program is spoilt: the reader, the program that came in, its box, the result's. -/
structure Bd (w0 w W : World) (g : Nat) (b : List Int) (m : Nat) (p : List (List S85)) (A : Option Addr) (c : Nat) (P : Nat → Prop) : Prop where
  hg : g < w.heap.size
  d : Dw w0 w W g b m
  v : Kd.V (Kd.slice 85 k85) 82 W w.heap.size (fun k => P k ∧ k ≠ g ∧ k < w.heap.size) (.slice A p.length c) p
  b1 : W.heap[w.heap.size]? = some (.cells #[.slice A p.length c] 35 (0, 0))
  b2 : W.heap[w.heap.size + 1]? = some (.cells #[.slice none 0 0] 35 (0, 0))
section
variable {w0 w W W1 : World} {g m m' : Nat} {b : List Int} {p : List (List S85)} {A : Option Addr} {c : Nat} {P : Nat → Prop}
theorem Bd.keep (E : Bd w0 w W g b m p A c P) (D : Dw w0 w W1 g b m') (k : KeepBut W W1 g none) : Bd w0 w W1 g b m' p A c P := ⟨E.hg, D, Kd.V_keep E.v k (fun _ h => h.2.1), kB k E.b1 E.hg, kB k E.b2 (by have := E.hg; omega)⟩
theorem Bd.below (E : Bd w0 w W g b m p A c P) (k : Below W.heap.size W W1) : Bd w0 w W1 g b m p A c P := ⟨E.hg, E.d.below k, Kd.V_below E.v k, blk_below E.b1 k, blk_below E.b2 k⟩
theorem Bd.alloc (E : Bd w0 w W g b m p A c P) (o : Obj) : Bd w0 w (W.alloc o) g b m p A c P := E.below (below_alloc (Below.refl _ _) o)
theorem Bd.more (E : Bd w0 w W g b m p A c P) (h : m ≤ m') : Bd w0 w W g b m' p A c P := ⟨E.hg, E.d.more h, E.v, E.b1, E.b2⟩
theorem Bd.grown {e : Nat} {α : Type} {d : Kd α} {v : Value} {y : List α} (E : Bd w0 w W g b m p A c P) (hR : Kd.R d e W w.heap.size (fun k => w.heap.size ≤ k) v y) (he : e ≠ 35) (k : W.grownBy W1 v.ownBlock) : Bd w0 w W1 g b m p A c P :=
  ⟨E.hg, E.d.grown E.hg k (fun x h => Kd.R_base hR x h), Kd.V_map E.v (fun _ hf => Kd.F_step hf (fun i hi hlt => k.block i hlt (fun e => by have := Kd.R_base hR i e.symm; have := hi.2.2; omega))),
    blk_grown E.b1 k (Kd.R_ne hR E.b1 he), blk_grown E.b2 k (Kd.R_ne hR E.b2 he)⟩
theorem lit1 (W : World) (f0 f1 f2 : Int) (base : Nat) (hb : base ≤ W.heap.size) : Kd.R k85 85 (W.alloc (.cells #[.int .i64 f0, .int .i64 f1, .int .i64 f2] 85)) base (fun k => base ≤ k) (.slice (some ⟨W.heap.size, 0, none⟩) 1 1) [⟨f0, f1, f2⟩] := by
  refine ⟨fun k hk => ?_, OwnRow.lit W base (ps := [(⟨f0, f1, f2⟩ : S85)]) (inner := [.int .i64 f0, .int .i64 f1, .int .i64 f2]) ((Reps.none _ _).snoc (k85_mkM _ _ _ _) rfl) hb (by simp)⟩
  have : W.heap.size = k := by simpa [Value.ownBlock] using hk
  omega
variable {ops : Array Oper} {rest : List Oper} {o : Oper} {a : Act} {Q : Exit → Act → World → Prop}
theorem app1 (E : Bd w0 w W g b m p A c P) (hgd : o.guard = none) (s x : Operand) (ho : o.op = .call { callee := .builtin .append, args := #[s, x], argTypes := #[82, 82] }) (v : Value) (y : List S85) (f0 f1 f2 : Int) (hs : a.eval s = v) (hx : a.eval x = .slice (some ⟨W.heap.size, 0, none⟩) 1 1) (hy : y.length ≤ 1000)
    (hR : Kd.R k85 85 W w.heap.size (fun k => w.heap.size ≤ k) v y)
    (h : ∀ A' c' y' w1, y'.length = y.length + 1 → Kd.R k85 85 w1 w.heap.size (fun k => w.heap.size ≤ k) (.slice A' y'.length c') y' → Bd w0 w w1 g b m p A c P → wpList Try.prog ops Q rest (a.put o.dst (.slice A' y'.length c')) w1) :
    wpList Try.prog ops Q (o :: rest) a (W.alloc (.cells #[.int .i64 f0, .int .i64 f1, .int .i64 f2] 85)) := by
  refine Kd.R_append k85 w.heap.size hgd s x 82 85 (.agg #[.int .i64 0, .int .i64 0, .int .i64 0]) 24 ho Try.underlying82 info85 rfl (by decide) (by omega) v y ⟨f0, f1, f2⟩ [.int .i64 f0, .int .i64 f1, .int .i64 f2] (fun k => w.heap.size ≤ k) (fun _ => False) hs hx (k85_mkM _ _ _ _) (fun _ hk => hk.elim) (fun k hk => Nat.le_trans E.d.sz hk) hR (Below.refl _ _) E.d.sz (by omega) ?_
  intro v1 w1 hr hb hg hat
  obtain ⟨A', c', rfl⟩ := Kd.R_slice hr
  exact h A' c' _ w1 (by simp) hr (E.grown hR (by decide) hg)
theorem app2 (E : Bd w0 w W g b m p A c P) (hgd : o.guard = none) (s x : Operand) (ho : o.op = .call { callee := .builtin .append, args := #[s, x], argTypes := #[82, 82] }) (v : Value) (y z : List S85) (A2 : Option Addr) (c2 : Nat) (hs : a.eval s = v) (hx : a.eval x = .slice A2 z.length c2) (hy : y.length ≤ 1000) (hz : z.length ≤ 1000)
    (hR : Kd.R k85 85 W w.heap.size (fun k => w.heap.size ≤ k) v y) (hC : Kd.C k85 W A2 z.length z)
    (h : ∀ A' c' y' w1, y'.length = y.length + z.length → Kd.R k85 85 w1 w.heap.size (fun k => w.heap.size ≤ k) (.slice A' y'.length c') y' → Bd w0 w w1 g b m p A c P → wpList Try.prog ops Q rest (a.put o.dst (.slice A' y'.length c')) w1) :
    wpList Try.prog ops Q (o :: rest) a W := by
  refine Kd.R_append_rows k85 (Rr := k85.K W) w.heap.size hgd s x 82 85 (.agg #[.int .i64 0, .int .i64 0, .int .i64 0]) 24 ho Try.underlying82 info85 rfl (by decide) (by omega) v y z A2 z.length c2 (fun k => w.heap.size ≤ k) (fun _ => False) hs hx hR hC (fun q cs hq => by rw [k85_open hq]; exact k85_mkM _ _ _ q) (fun _ hk => hk.elim) (fun k hk => Nat.le_trans E.d.sz hk) (Below.refl _ _) E.d.sz (by omega) ?_
  intro v1 w1 hr hb hg hat
  obtain ⟨A', c', rfl⟩ := Kd.R_slice hr
  exact h A' c' _ w1 (by simp) hr (E.grown hR (by decide) hg)
end
theorem ob_ {k x n c : Nat} (h : some k = (Value.slice (some ⟨x, 0, none⟩) n c).ownBlock) : k = x := by simpa [Value.ownBlock] using h
theorem two_at (q : Array Value) (x u v : Int) (h0 : 0 ≤ x) (h1 : x < 2) (hq : q = #[.int .i64 u, .int .i64 v]) : q[x.toNat]? = some (.int .i64 (if x = 0 then u else v)) := by
  subst hq
  obtain rfl | rfl : x = 0 ∨ x = 1 := by omega
  · rfl
  · rfl
set_option maxHeartbeats 8000000 in
set_option maxRecDepth 100000 in
theorem bad_dw {w0 w : World} {g m : Nat} {b : List Int} (p : List (List S85)) (A : Option Addr) (c : Nat) (P : Nat → Prop) (hp : 1 ≤ p.length ∧ p.length ≤ 3 ∧ ∀ t ∈ p, t.length ≤ 20) (hl : b.length ≤ 2000) (hu : ∀ x ∈ b, 0 ≤ x ∧ x ≤ 255) (hm : m ≤ 500000) (D : Dw w0 w w g b m)
    (hv : Kd.V (Kd.slice 85 k85) 82 w w.heap.size (fun k => P k ∧ k ≠ g ∧ k < w.heap.size) (.slice A p.length c) p) :
    Calls Try.prog 124 #[.pointer (some ⟨g, 0, none⟩), .agg #[.slice A p.length c]] w fun e w' => ∃ (v : Value) (q : List (List S85)), e = .returned (.agg #[v]) ∧ (1 ≤ q.length ∧ q.length ≤ 3 ∧ ∀ t ∈ q, t.length ≤ 30) ∧
      Kd.N (Kd.slice 85 k85) 82 w' w.heap.size (fun k => (P k ∨ w.heap.size ≤ k) ∧ k ≠ g) v q ∧ Dw w0 w w' g b (m + 10) := by
  have E0 := am_ (show Bd w0 w ((w.alloc (.cells #[.slice A p.length c] 35)).alloc (.cells #[.slice none 0 0] 35)) g b m p A c P from
    ⟨D.lt, (D.alloc _).alloc _, Kd.V_alloc (Kd.V_alloc hv _) _, blk_alloc (heap_alloc_new w _) _, by have := heap_alloc_new (w.alloc (.cells #[.slice A p.length c] 35)) (.cells #[.slice none 0 0] 35); rwa [World.size_alloc] at this⟩)
  have HG := am_ D.lt
  have HP := am_ hp
  clear D hv hp
  go_enter Try.func124, Try.ntmps124
  go_wp2_with (go_at_call 71; refine park ?_)
  refine ⟨?_⟩
  refine (pick_dw (p.length : Int) (by have := HP.out.1; omega) hl hu (by omega) E0.out.d).mono ?_
  rintro e W1 ⟨v, rfl, hv0, hv1, hD, hk⟩
  have E1 := am_ (E0.out.keep hD hk)
  clear hD hk E0
  have HV := am_ (And.intro hv0 hv1)
  obtain ⟨ad, A2, c2, rfl, hx1, hx2, hx3⟩ := at_L7 (Kd.V_reads' E1.out.v).2.2 v hv0 hv1
  obtain ⟨z, hz⟩ : ∃ z, z = rd_L7 p v := ⟨_, rfl⟩
  have HZ := am_ (show z.length ≤ 20 by
    rw [hz]; unfold rd_L7
    have hlt : v.toNat < p.length := by omega
    rw [List.getD_eq_getElem?_getD, List.getElem?_eq_getElem hlt]
    exact HP.out.2.2 _ (List.getElem_mem hlt))
  rw [← hz] at hx1 hx2 hx3
  have HC := am_ hx3
  have HE := am_ (show Kd.R k85 85 (W1.alloc (.cells #[] 85)) w.heap.size (fun k => w.heap.size ≤ k) (.slice (some ⟨W1.heap.size, 0, none⟩) 0 0) [] from R_empty k85 85 W1 w.heap.size _ E1.out.d.sz E1.out.d.sz)
  have q0 : ∀ o, (W1.alloc o).cell? ⟨w.heap.size, 0, none⟩ = some (.slice (some ad) p.length c) := fun o => cf0 (blk_alloc E1.out.b1 o)
  have q1 : ∀ o, (W1.alloc o).cell? (ad.add v.toNat) = some (.slice A2 z.length c2) := fun o => pw_cell_below (below_alloc (Below.refl _ _) o) hx1
  clear hx3 hz hx1 hx2
  go_wp2_with (at_builtin; refine park ?_)
  clear q0 q1
  refine ⟨?_⟩
  refine app2 (E1.out.alloc _) rfl (.tmp 14) (.tmp 19) rfl _ [] z A2 c2 rfl rfl (by simp) (by have := HZ.out; omega) HE.out (Kd.C_below HC.out (below_alloc (Below.refl _ _) _)) ?_
  intro A3 c3 y W2 hyl hy hE
  have HY := am_ (show y.length ≤ 20 by have := HZ.out; simp only [List.length_nil] at hyl; omega)
  have RY := am_ hy
  have E2 := am_ hE
  clear hyl hy hE HE HC E1
  go_wp2_with (go_at_call 71; refine park ?_)
  refine ⟨?_⟩
  refine (pick_dw 8 (by decide) hl hu (by omega) E2.out.d).mono ?_
  rintro e W3 ⟨s, rfl, hs0, hs1, hD, hk⟩
  have E3 := am_ (E2.out.keep hD hk)
  have R3 := am_ (kR hk RY.out HG.out)
  clear hs0 hs1 hD hk E2 RY
  go_upto_block 0 with fail
  go_cut [6, 7] from 23 to 91 (fun v6 v7 wc => ∃ (A' : Option Addr) (c' : Nat) (y' : List S85), v6 = .slice A' y'.length c' ∧ Aside0 (y'.length ≤ 28) ∧ Aside0 (Kd.R k85 85 wc w.heap.size (fun k => w.heap.size ≤ k) (.slice A' y'.length c') y') ∧ Aside0 (Bd w0 w wc g b (m + 9) p (some ad) c P))
  case first =>
    by_cases h0 : s = 0
    · have t0 : (s == 0) = true := by simpa using h0
      clear h0
      go_wp2_with (go_at_call 71; refine park ?_)
      refine ⟨?_⟩
      refine (pick_dw 12 (by decide) hl hu (by omega) E3.out.d).mono ?_
      rintro e W4 ⟨x, rfl, hx0, hx1, hD, hk⟩
      have E4 := am_ (E3.out.keep hD hk)
      have R4 := am_ (kR hk R3.out HG.out)
      clear hx0 hx1 hD hk E3 R3
      go_wp2_with (at_builtin; refine park ?_)
      refine ⟨?_⟩
      refine app1 E4.out rfl (.tmp 29) (.tmp 34) rfl _ y _ _ _ rfl rfl (by have := HY.out; omega) R4.out ?_
      intro A' c' y' w1 hyl hR hE
      have H1 := am_ (show y'.length ≤ 28 by have := HY.out; (try simp only [List.length_cons, List.length_nil] at hyl); omega)
      have H2 := am_ hR
      have H3 := am_ hE
      clear hyl hR hE
      go_wp2_with fail
      go_meet
      case rel => exact ⟨A', c', y', rfl, H1, H2, ⟨H3.out.more (by omega)⟩⟩
    have t0 : (s == 0) = false := by simpa using h0
    clear h0
    by_cases h1 : s = 1
    · have t1 : (s == 1) = true := by simpa using h1
      clear h1
      go_wp2_with (at_builtin; refine park ?_)
      refine ⟨?_⟩
      refine app2 (E3.out.alloc _) rfl (.tmp 39) (.tmp 40) rfl _ [⟨3, 0, 0⟩] y A3 c3 rfl rfl (by simp) (by have := HY.out; omega) (lit1 W3 3 0 0 _ E3.out.d.sz) (Kd.C_below (Kd.R_reads' R3.out).2.2 (below_alloc (Below.refl _ _) _)) ?_
      intro A' c' y' w1 hyl hR hE
      have H1 := am_ (show y'.length ≤ 28 by have := HY.out; (try simp only [List.length_cons, List.length_nil] at hyl); omega)
      have H2 := am_ hR
      have H3 := am_ hE
      clear hyl hR hE
      go_wp2_with fail
      go_meet
      case rel => exact ⟨A', c', y', rfl, H1, H2, ⟨H3.out.more (by omega)⟩⟩
    have t1 : (s == 1) = false := by simpa using h1
    clear h1
    by_cases h2 : s = 2
    · have t2 : (s == 2) = true := by simpa using h2
      clear h2
      go_wp2_with (at_builtin; refine park ?_)
      refine ⟨?_⟩
      refine app1 E3.out rfl (.tmp 44) (.tmp 46) rfl _ y _ _ _ rfl rfl (by have := HY.out; omega) R3.out ?_
      intro A' c' y' w1 hyl hR hE
      have H1 := am_ (show y'.length ≤ 28 by have := HY.out; (try simp only [List.length_cons, List.length_nil] at hyl); omega)
      have H2 := am_ hR
      have H3 := am_ hE
      clear hyl hR hE
      go_wp2_with fail
      go_meet
      case rel => exact ⟨A', c', y', rfl, H1, H2, ⟨H3.out.more (by omega)⟩⟩
    have t2 : (s == 2) = false := by simpa using h2
    clear h2
    by_cases h3 : s = 3
    · have t3 : (s == 3) = true := by simpa using h3
      clear h3
      go_wp2_with (at_builtin; refine park ?_)
      refine ⟨?_⟩
      refine app2 (E3.out.alloc _) rfl (.tmp 51) (.tmp 52) rfl _ [⟨8, 0, 0⟩] y A3 c3 rfl rfl (by simp) (by have := HY.out; omega) (lit1 W3 8 0 0 _ E3.out.d.sz) (Kd.C_below (Kd.R_reads' R3.out).2.2 (below_alloc (Below.refl _ _) _)) ?_
      intro A' c' y' w1 hyl hR hE
      have H1 := am_ (show y'.length ≤ 28 by have := HY.out; (try simp only [List.length_cons, List.length_nil] at hyl); omega)
      have H2 := am_ hR
      have H3 := am_ hE
      clear hyl hR hE
      go_wp2_with fail
      go_meet
      case rel => exact ⟨A', c', y', rfl, H1, H2, ⟨H3.out.more (by omega)⟩⟩
    have t3 : (s == 3) = false := by simpa using h3
    clear h3
    by_cases h4 : s = 4
    · have t4 : (s == 4) = true := by simpa using h4
      clear h4
      go_wp2_with (go_at_call 71; refine park ?_)
      refine ⟨?_⟩
      refine (pick_dw 2 (by decide) hl hu (by omega) (E3.out.alloc (.cells #[.int .i64 (-1), .int .i64 3] 3)).d).mono ?_
      rintro e W4 ⟨x, rfl, hx0, hx1, hD, hk⟩
      have E4 := am_ ((E3.out.alloc (.cells #[.int .i64 (-1), .int .i64 3] 3)).keep hD hk)
      have R4 := am_ (kR hk (Kd.R_alloc R3.out _) HG.out)
      obtain ⟨tv, htv⟩ : ∃ tv, W4.cell? ⟨W3.heap.size, x.toNat, none⟩ = some (.int .i64 tv) := ⟨_, (blk_cell (kB hk (heap_alloc_new W3 (.cells #[.int .i64 (-1), .int .i64 3] 3)) (Nat.lt_of_lt_of_le HG.out E3.out.d.sz)) _).trans (two_at _ x (-1) 3 hx0 hx1 rfl)⟩
      clear hD hk R3
      go_wp2_with (at_builtin; refine park ?_)
      refine ⟨?_⟩
      clear hx0 hx1 htv
      refine app1 E4.out rfl (.tmp 56) (.tmp 63) rfl _ y _ _ _ rfl rfl (by have := HY.out; omega) R4.out ?_
      intro A' c' y' w1 hyl hR hE
      have H1 := am_ (show y'.length ≤ 28 by have := HY.out; (try simp only [List.length_cons, List.length_nil] at hyl); omega)
      have H2 := am_ hR
      have H3 := am_ hE
      clear hyl hR hE
      go_wp2_with fail
      go_meet
      case rel => exact ⟨A', c', y', rfl, H1, H2, ⟨H3.out.more (by omega)⟩⟩
    have t4 : (s == 4) = false := by simpa using h4
    clear h4
    by_cases h5 : s = 5
    · have t5 : (s == 5) = true := by simpa using h5
      clear h5
      go_wp2_with (go_at_call 71; refine park ?_)
      refine ⟨?_⟩
      refine (pick_dw 2 (by decide) hl hu (by omega) (E3.out.alloc (.cells #[.int .i64 (0), .int .i64 4] 3)).d).mono ?_
      rintro e W4 ⟨x, rfl, hx0, hx1, hD, hk⟩
      have E4 := am_ ((E3.out.alloc (.cells #[.int .i64 (0), .int .i64 4] 3)).keep hD hk)
      have R4 := am_ (kR hk (Kd.R_alloc R3.out _) HG.out)
      obtain ⟨tv, htv⟩ : ∃ tv, W4.cell? ⟨W3.heap.size, x.toNat, none⟩ = some (.int .i64 tv) := ⟨_, (blk_cell (kB hk (heap_alloc_new W3 (.cells #[.int .i64 (0), .int .i64 4] 3)) (Nat.lt_of_lt_of_le HG.out E3.out.d.sz)) _).trans (two_at _ x (0) 4 hx0 hx1 rfl)⟩
      clear hD hk R3
      go_wp2_with (at_builtin; refine park ?_)
      refine ⟨?_⟩
      clear hx0 hx1 htv
      refine app1 E4.out rfl (.tmp 67) (.tmp 74) rfl _ y _ _ _ rfl rfl (by have := HY.out; omega) R4.out ?_
      intro A' c' y' w1 hyl hR hE
      have H1 := am_ (show y'.length ≤ 28 by have := HY.out; (try simp only [List.length_cons, List.length_nil] at hyl); omega)
      have H2 := am_ hR
      have H3 := am_ hE
      clear hyl hR hE
      go_wp2_with fail
      go_meet
      case rel => exact ⟨A', c', y', rfl, H1, H2, ⟨H3.out.more (by omega)⟩⟩
    have t5 : (s == 5) = false := by simpa using h5
    clear h5
    by_cases h6 : s = 6
    · have t6 : (s == 6) = true := by simpa using h6
      clear h6
      go_wp2_with fail
      go_loopg [6, 7] 7 (fun kq v6 v7 W => ∃ (A' : Option Addr) (c' : Nat) (y' : List S85) (j : Nat), v6 = .slice A' y'.length c' ∧ v7 = .int .i64 j ∧ Aside0 (j + kq = 7 ∧ y'.length ≤ 20 + j) ∧ Aside0 (Kd.R k85 85 W w.heap.size (fun k => w.heap.size ≤ k) (.slice A' y'.length c') y') ∧ Aside0 (Bd w0 w W g b (m + 2 + j) p (some ad) c P))
      case atStart => exact ⟨A3, c3, y, 0, rfl, rfl, ⟨by have := HY.out; omega⟩, R3, ⟨E3.out.more (by omega)⟩⟩
      case round =>
        obtain ⟨A5, c5, y5, j, rfl, rfl, HJ, R5, E5⟩ := hrel
        clear R3 E3
        by_cases hj : j < 7
        · obtain ⟨k1, rfl⟩ : ∃ k, gk = k + 1 := ⟨gk - 1, by have := HJ.out; omega⟩
          have hd : decide ((j : Int) < 7) = true := decide_eq_true (by omega)
          clear hj
          go_wp2_with (go_at_call 71; refine park ?_)
          refine ⟨?_⟩
          refine (pick_dw 2 (by decide) hl hu (by have := HJ.out; omega) (E5.out.alloc (.cells #[.int .i64 4, .int .i64 2] 3)).d).mono ?_
          rintro e W4 ⟨x, rfl, hx0, hx1, hD, hk⟩
          have E4 := am_ ((E5.out.alloc (.cells #[.int .i64 4, .int .i64 2] 3)).keep hD hk)
          have R4 := am_ (kR hk (Kd.R_alloc R5.out _) HG.out)
          obtain ⟨tv, htv⟩ : ∃ tv, W4.cell? ⟨wr.heap.size, x.toNat, none⟩ = some (.int .i64 tv) := ⟨_, (blk_cell (kB hk (heap_alloc_new wr (.cells #[.int .i64 4, .int .i64 2] 3)) (Nat.lt_of_lt_of_le HG.out E5.out.d.sz)) _).trans (two_at _ x 4 2 hx0 hx1 rfl)⟩
          clear hD hk R5
          go_wp2_with (at_builtin; refine park ?_)
          refine ⟨?_⟩
          clear hx0 hx1 htv
          refine app1 E4.out rfl (.tmp 82) (.tmp 89) rfl _ y5 _ _ _ rfl rfl (by have := HJ.out; omega) R4.out ?_
          intro A' c' y' w1 hyl hR hE
          have H1 := am_ hyl
          have H2 := am_ hR
          have H3 := am_ hE
          have hw : wrap64 ((j : Int) + 1) = ((j + 1 : Nat) : Int) := by have := HJ.out; unfold wrap64; omega
          have HW := am_ hw
          clear hyl hR hE hw
          go_wp2_with fail
          go_roundg k1
          case measure => omega
          case rel => exact ⟨A', c', y', j + 1, rfl, by rw [HW.out], ⟨by have := HJ.out; have := H1.out; omega⟩, H2, ⟨H3.out.more (by omega)⟩⟩
        · have hd : decide ((j : Int) < 7) = false := decide_eq_false (by omega)
          clear hj
          go_wp2_with fail
          go_meet
          case rel => exact ⟨A5, c5, y5, rfl, ⟨by have := HJ.out; omega⟩, R5, ⟨E5.out.more (by have := HJ.out; omega)⟩⟩
    have t6 : (s == 6) = false := by simpa using h6
    clear h6
    go_wp2_with (at_builtin; refine park ?_)
    refine ⟨?_⟩
    refine app1 E3.out rfl (.tmp 23) (.tmp 25) rfl _ y _ _ _ rfl rfl (by have := HY.out; omega) R3.out ?_
    intro A' c' y' w1 hyl hR hE
    have H1 := am_ (show y'.length ≤ 28 by have := HY.out; (try simp only [List.length_cons, List.length_nil] at hyl); omega)
    have H2 := am_ hR
    have H3 := am_ hE
    clear hyl hR hE
    go_wp2_with fail
    go_meet
    case rel => exact ⟨A', c', y', rfl, H1, H2, ⟨H3.out.more (by omega)⟩⟩
  case rest =>
    obtain ⟨A6, c6, y6, rfl, HY6, R6, E6⟩ := hcut
    have HN := am_ (Kd.R_N (R_empty (Kd.slice 85 k85) 82 wc w.heap.size (fun k => (P k ∧ k ≠ g ∧ k < w.heap.size) ∨ (w.heap.size ≤ k ∧ k ≠ w.heap.size + 1)) E6.out.d.sz (.inr ⟨E6.out.d.sz, by have := blk_lt E6.out.b2; omega⟩)))
    have HRE := am_ (R_empty (Kd.slice 85 k85) 82 wc w.heap.size (fun k => w.heap.size ≤ k) E6.out.d.sz E6.out.d.sz)
    have R7 := am_ (Kd.R_alloc (Kd.R_mono (ok' := fun k => w.heap.size ≤ k ∧ k < wc.heap.size ∧ k ≠ w.heap.size + 1) (Kd.R_types (Kd.R_bound R6.out) E6.out.b2 (by decide)) (fun k h => ⟨h.1.1, h.1.2.2.1, h.2⟩)) (.cells #[] 82))
    have E7 := am_ (E6.out.alloc (.cells #[] 82))
    have HS := am_ E6.out.d.sz
    have HB2 := am_ (blk_lt E6.out.b2)
    have q0 : ∀ o, (wc.alloc o).cell? ⟨w.heap.size, 0, none⟩ = some (.slice (some ad) p.length c) := fun o => cf0 (blk_alloc E6.out.b1 o)
    clear R6 E6
    go_wp2_with (at_builtin; refine park ?_)
    clear q0
    refine ⟨?_⟩
    refine Kd.N_append_rows (Kd.slice 85 k85) w.heap.size rfl (.tmp 91) (.tmp 93) 33 82 (.slice none 0 0) 24 rfl Try.underlying33 info82 rfl (by decide) (by omega) (.slice (some ⟨wc.heap.size, 0, none⟩) 0 0) [] p (some ad) p.length c (fun k => (P k ∧ k ≠ g ∧ k < w.heap.size) ∨ (w.heap.size ≤ k ∧ k ≠ w.heap.size + 1)) (fun k => P k ∧ k ≠ g ∧ k < w.heap.size) rfl rfl HN.out (Kd.V_F E7.out.v) (fun k hk => ⟨.inl hk, fun e => by have := HS.out; have := hk.2.2; have := ob_ e; omega⟩) (fun k hk => .inr ⟨Nat.le_trans E7.out.d.sz hk, by have := HB2.out; rw [World.size_alloc] at hk; omega⟩) (Below.refl _ _) E7.out.d.sz (by have := HP.out; simp only [List.length_nil]; omega) ?_
    intro v1 w8 ho hb hg hat
    rw [List.nil_append] at ho
    obtain ⟨gx, cx, rfl, hgx, hgw, cells, hcl⟩ := Kd.N_form ho (by have := HP.out; omega)
    have N8 := am_ ho
    have R8 := am_ (Kd.R_step R7.out (fun k hk hlt => hg.block k hlt (fun e => by have := ob_ e; have := hk.2.1; omega)))
    have E8 := am_ (E7.out.grown HRE.out (by decide) hg)
    have HGX := am_ (show w.heap.size ≤ gx ∧ gx < w8.heap.size ∧ wc.heap.size ≤ gx by
      refine ⟨hgx, hgw, ?_⟩
      rcases hat with hat | ⟨b', h1, h2⟩
      · have := ob_ (hat ▸ (show some gx = (Value.slice (some ⟨gx, 0, none⟩) p.length cx).ownBlock from rfl)); omega
      · have e : gx = b' := by simpa [Value.ownBlock] using h1
        rw [World.size_alloc] at h2; omega)
    clear ho hb hg hat hgx hgw hcl HN HRE R7 E7
    have q0 := cf0 E8.out.b2
    have hv0 := HV.out.1
    have hv1 := HV.out.2
    have NX := Kd.N_alloc N8.out (.cells #[.slice (some ⟨gx, 0, none⟩) p.length cx] 35)
    obtain ⟨ce, hcl, hM, hcc, hfr⟩ := Kd.N_elem NX [] v hv0 hv1
    obtain ⟨ua, uc, rfl, ul, ge⟩ := Kd.FK_slice_open hM
    have hx := hcc 0 _ rfl
    have hy := hfr 0
    have HP2 := Kd.N_seg NX v hv0 hv1 (seg := [.slice A6 y6.length c6]) (j := 0) hcl hcc (show 1 ≤ 1 by decide) (x' := y6) (okp := fun k => w.heap.size ≤ k ∧ k < wc.heap.size ∧ k ≠ w.heap.size + 1) (Kd.FK_of_M (Kd.M_row (Kd.R_alloc R8.out (.cells #[.slice (some ⟨gx, 0, none⟩) p.length cx] 35)))) (fun k hk => ⟨.inr ⟨hk.1, hk.2.2⟩, by have := HGX.out; have := hk.2.1; omega⟩)
    simp only [show (Kd.slice 85 k85).sz = 1 from rfl, Nat.mul_one, Nat.add_zero] at hx hy HP2
    rw [show ∀ (W : World) (u : Value), W.setCells gx v.toNat [u] = W.setCell ⟨gx, v.toNat, none⟩ u from fun _ _ => rfl] at HP2
    have HP3 := am_ HP2
    have hf := blk_frozen (blk_alloc E8.out.b2 (.cells #[.slice (some ⟨gx, 0, none⟩) p.length cx] 35)) 0
    have E9 := am_ (E8.out.alloc (.cells #[.slice (some ⟨gx, 0, none⟩) p.length cx] 35))
    have F2 := am_ (blk_grown E9.out.b2 HP3.out.2 (fun e => by injection e with e; have := HGX.out; have := HB2.out; omega))
    have F3 := am_ (blk_grown (heap_alloc_new w8 (.cells #[.slice (some ⟨gx, 0, none⟩) p.length cx] 35)) HP3.out.2 (fun e => by injection e with e; have := HGX.out; omega))
    have D9 := am_ (E9.out.d.grown HG.out HP3.out.2 (fun x hx => by injection hx with hx; have := HGX.out; omega))
    clear HP2 hcl hM hcc hfr ge NX
    have q1 := cf0 F3.out
    have q2 := cf0 F2.out
    have q3 := blk_frozen F2.out 0
    go_wp2_with fail
    refine bodyPost_ret (results_cell_row rfl _ _ (w.heap.size + 1) 35 #[.slice (some ⟨gx, 0, none⟩) p.length cx] (0, 0) _ rfl (blk_set F2.out 0 _) Try.underlying35 rfl (by kernel_rfl)) rfl ?_
    refine ⟨_, p.set v.toNat y6, rfl, ⟨by rw [List.length_set]; exact HP.out.1, by rw [List.length_set]; exact HP.out.2.1, fun t ht => ?_⟩, ?_, (D9.out.set HG.out ⟨w.heap.size + 1, 0, none⟩ _ (by simp)).more (by omega)⟩
    · rcases List.mem_or_eq_of_mem_set ht with ht | rfl
      · have := HP.out.2.2 t ht; omega
      · have := HY6.out; omega
    · refine Kd.N_mono (Kd.N_step HP3.out.1 (fun k hk hlt => Below.heap_setCell _ ⟨w.heap.size + 1, 0, none⟩ _ k ?_)) (fun k hk => ?_)
      · show k ≠ w.heap.size + 1
        rcases hk with hk | hk
        · omega
        · exact hk.2
      · have := HG.out
        rcases hk with hk | hk
        · exact ⟨.inl hk.1, hk.2.1⟩
        · exact ⟨.inr hk.1, by omega⟩
end Go.Proofs.Ytefkbmhkhpekjaa.PB

namespace Go.Proofs.Ytefkbmhkhpekjaa.PB
open Go.RowKit Go.Proofs.YtefkbmhkhpekjaaW.PrintWords Go.Proofs.YtefkbmhkhpekjaaW.PrintLast Go.Proofs.YtefkbmhkhpekjaaW.PrintMore
attribute [local go_sem] max2_int min2_int max_two min_two max_three min_three max_four min_four   -- for this text's walks alone
open Go.Proofs.YtefkbmhkhpekjaaMine
set_option linter.unusedVariables false
set_option linter.unusedSimpArgs false

theorem z121_1 {p : Prop} (h : p := by first | rfl | (simp [errW_none, errW_some] <;> rfl) | (simp [*, errW_none, errW_some] <;> rfl)) : p := h
theorem z121_2 {p : Prop} (h : p := by repeat (first | (with_reducible first | exact HK.out | apply KeepBut.set_ | apply keep_drewN | apply keep_drew | apply keep_alloc) | exact HK.out)) : p := h
theorem z121_3 {p : Prop} (h : p := by repeat (first | (with_reducible first | exact HK.out | apply KeepBut.set_ | apply keep_drewN | apply keep_drew | apply keep_alloc | refine keep_far ?_ GW525.out _) | exact HK.out)) : p := h
theorem z121_4 {p : Prop} (h : p := by repeat (first | (with_reducible first | exact HI0.out | apply IsS116.alloc | apply IsS116.drewN | apply IsS116.drew | apply IsS116.set_1 | refine IsS116.far ?_ NB0_525.out _) | exact HI0.out)) : p := h
theorem z121_5 {p : Prop} (h : p := by repeat (first | (with_reducible first | exact HB.out | apply below_alloc | apply pw_below_drewN | apply below_drew1 | refine below_set ?_ (IsS116.ge HI0.out) | refine below_set ?_ GE525.out) | exact HB.out)) : p := h
theorem z121_6 {p : Prop} (h : p := by repeat (first | (with_reducible first | exact HK.out | apply KeepBut.set_ | apply keep_drewN | apply keep_drew | apply keep_alloc | refine keep_far ?_ GW525.out _ | refine keep_far ?_ GW532.out _) | exact HK.out)) : p := h
theorem z121_7 {p : Prop} (h : p := by repeat (first | (with_reducible first | exact HI0.out | apply IsS116.alloc | apply IsS116.drewN | apply IsS116.drew | apply IsS116.set_1 | refine IsS116.far ?_ NB0_525.out _ | refine IsS116.far ?_ NB0_532.out _) | exact HI0.out)) : p := h
theorem z121_8 {p : Prop} (h : p := by repeat (first | (with_reducible first | exact HB.out | apply below_alloc | apply pw_below_drewN | apply below_drew1 | refine below_set ?_ (IsS116.ge HI0.out) | refine below_set ?_ GE525.out | refine below_set ?_ GE532.out) | exact HB.out)) : p := h
theorem z121_9 {p : Prop} (h : p := by (with_reducible repeat (first | refine blk_drewN ?_ _ | refine blk_drew ?_ | refine blk_alloc ?_ _)); refine blk_far ?_ NB525_532.out _; (with_reducible repeat (first | refine blk_drewN ?_ _ | refine blk_drew ?_ | refine blk_alloc ?_ _)); exact BK525.out) : p := h
theorem z121_10 {p : Prop} (h : p := by (with_reducible repeat (first | refine blk_drewN ?_ _ | refine blk_drew ?_ | refine blk_alloc ?_ _)); refine blk_put (cs := #[.int .i64 (rd y526 t529), .int .i64 0, .int .i64 0]) ?_ 1 _ rfl; (with_reducible repeat (first | refine blk_drewN ?_ _ | refine blk_drew ?_ | refine blk_alloc ?_ _)); exact BK532.out) : p := h
theorem z121_11 {p : Prop} (h : p := by (with_reducible repeat (first | refine blk_drewN ?_ _ | refine blk_drew ?_ | refine blk_alloc ?_ _)); refine blk_put (cs := #[.int .i64 (rd y526 t529), .int .i64 0, .int .i64 0]) ?_ 2 _ rfl; (with_reducible repeat (first | refine blk_drewN ?_ _ | refine blk_drew ?_ | refine blk_alloc ?_ _)); refine blk_put (cs := #[.int .i64 (rd y526 t529), .int .i64 0, .int .i64 0]) ?_ 1 _ rfl; (with_reducible repeat (first | refine blk_drewN ?_ _ | refine blk_drew ?_ | refine blk_alloc ?_ _)); refine blk_put (cs := #[.int .i64 0, .int .i64 0, .int .i64 0]) ?_ 0 _ rfl; (with_reducible repeat (first | refine blk_drewN ?_ _ | refine blk_drew ?_ | refine blk_alloc ?_ _)); exact BK532.out) : p := h
theorem z121_12 {p : Prop} (h : p := by (with_reducible repeat (first | refine blk_drewN ?_ _ | refine blk_drew ?_ | refine blk_alloc ?_ _)); refine blk_far ?_ NB525_532.out _; (with_reducible repeat (first | refine blk_drewN ?_ _ | refine blk_drew ?_ | refine blk_alloc ?_ _)); refine blk_far ?_ NB525_532.out _; (with_reducible repeat (first | refine blk_drewN ?_ _ | refine blk_drew ?_ | refine blk_alloc ?_ _)); refine blk_far ?_ NB525_532.out _; (with_reducible repeat (first | refine blk_drewN ?_ _ | refine blk_drew ?_ | refine blk_alloc ?_ _)); exact BK525.out) : p := h
theorem z121_13 {p : Prop} (h : p := by (with_reducible repeat (first | refine blk_drewN ?_ _ | refine blk_drew ?_ | refine blk_alloc ?_ _)); refine blk_put (cs := #[.int .i64 (rd y526 t529), .int .i64 0, .int .i64 0]) ?_ 2 _ rfl; (with_reducible repeat (first | refine blk_drewN ?_ _ | refine blk_drew ?_ | refine blk_alloc ?_ _)); refine blk_put (cs := #[.int .i64 (rd y526 t529), .int .i64 0, .int .i64 0]) ?_ 1 _ rfl; (with_reducible repeat (first | refine blk_drewN ?_ _ | refine blk_drew ?_ | refine blk_alloc ?_ _)); refine blk_put (cs := #[.int .i64 0, .int .i64 0, .int .i64 0]) ?_ 0 _ rfl; (with_reducible repeat (first | refine blk_drewN ?_ _ | refine blk_drew ?_ | refine blk_alloc ?_ _)); refine blk_far ?_ NB525_532.out _; (with_reducible repeat (first | refine blk_drewN ?_ _ | refine blk_drew ?_ | refine blk_alloc ?_ _)); exact BK525.out) : p := h
theorem z121_14 {p : Prop} (h : p := by (with_reducible repeat (first | refine blk_drewN ?_ _ | refine blk_drew ?_ | refine blk_alloc ?_ _)); refine blk_put (cs := #[.int .i64 (rd y526 t529), .int .i64 t535, .int .i64 0]) ?_ 2 _ rfl; (with_reducible repeat (first | refine blk_drewN ?_ _ | refine blk_drew ?_ | refine blk_alloc ?_ _)); refine blk_put (cs := #[.int .i64 (rd y526 t529), .int .i64 0, .int .i64 0]) ?_ 1 _ rfl; (with_reducible repeat (first | refine blk_drewN ?_ _ | refine blk_drew ?_ | refine blk_alloc ?_ _)); refine blk_put (cs := #[.int .i64 0, .int .i64 0, .int .i64 0]) ?_ 0 _ rfl; (with_reducible repeat (first | refine blk_drewN ?_ _ | refine blk_drew ?_ | refine blk_alloc ?_ _)); refine blk_far ?_ NB525_532.out _; (with_reducible repeat (first | refine blk_drewN ?_ _ | refine blk_drew ?_ | refine blk_alloc ?_ _)); exact BK525.out) : p := h
/-! ### spec_l71Do: function 121 -/
def spec_l71Do.j0 : Nat → Int → Bool → List Int → Int → Int → Int → Int → Option (Int × Int × Int × Int)
  | 0, _, _, _, _, _, _, _ => none
  | k + 1, x1, x17, x01, x02, x00, x03, x04 => if x17 = true then ((spec_l6Rd_pick.f k x01 x02 x1).bind fun bt535 => (if x00 = 1 then ((spec_l6Rd_pick.f k x01 bt535.2 3).bind fun bt537 => (some (x00, bt535.1, wrap64 (1 + bt537.1), bt537.2))) else (if x00 = 6 then ((spec_l6Rd_pick.f k x01 bt535.2 3).bind fun bt539 => (some (x00, bt535.1, wrap64 (1 + bt539.1), bt539.2))) else (some (x00, bt535.1, x04, bt535.2))))) else (if x00 = 1 then ((spec_l6Rd_pick.f k x01 x02 3).bind fun bt541 => (some (x00, x03, wrap64 (1 + bt541.1), bt541.2))) else (if x00 = 6 then ((spec_l6Rd_pick.f k x01 x02 3).bind fun bt543 => (some (x00, x03, wrap64 (1 + bt543.1), bt543.2))) else (some (x00, x03, x04, x02))))
def spec_l71Do.f (k : Nat) (s0_0 : List Int) (s0_1 : Int) (a1 : Int) : Option (Int × Int × Int × Int) := (some (([1, 1, 1, 2, 2, 2, 3, 4, 5, 6] : List Int) : List Int)).bind fun y526 => ((spec_l6Rd_pick.f k s0_0 s0_1 10).bind fun bt529 => (if 0 ≤ bt529.1 then (if bt529.1 < (y526.length : Int) then ((spec_l1Reads.f (rd y526 bt529.1) 0 0).bind fun t533 => (if t533 = true then (spec_l71Do.j0 k a1 true s0_0 bt529.2 (rd y526 bt529.1) 0 0) else ((spec_l1Writes.f (rd y526 bt529.1) 0 0).bind fun t534 => (spec_l71Do.j0 k a1 t534 s0_0 bt529.2 (rd y526 bt529.1) 0 0)))) else (none)) else (none)))
set_option maxHeartbeats 8000000 in
set_option maxRecDepth 100000 in
theorem spec_l71Do.calls (k : Nat) (g : Nat) (s0_0 : List Int) (s0_1 : Int) (a1 : Int) (r1 : Int) (r2 : Int) (r3 : Int) (r4 : Int) (w0 w : World) (hI : IsS116 w0 w g s0_0 s0_1) (hB : Below w0.heap.size w0 w) (h : spec_l71Do.f k s0_0 s0_1 a1 = some (r1, r2, r3, r4)) :
  Calls Try.prog 121 #[.pointer (some ⟨g, 0, none⟩), .int .i64 a1] w fun e w' => e = .returned (.agg #[.int .i64 r1, .int .i64 r2, .int .i64 r3]) ∧ IsS116 w0 w' g s0_0 r4 ∧ Below w0.heap.size w0 w' ∧ KeepBut w w' g none := by
 have hu85 := Try.underlying85
 have HI0 := am_ hI
 have HK := am_ (KeepBut.refl w g none)
 have HL := am_ hB.size
 clear hI
 have HW0 := am_ hB.size
 have HB := am_ hB
 clear hB
 have H : ((some (([1, 1, 1, 2, 2, 2, 3, 4, 5, 6] : List Int) : List Int)).bind fun y526 => ((spec_l6Rd_pick.f k s0_0 s0_1 10).bind fun bt529 => (if 0 ≤ bt529.1 then (if bt529.1 < (y526.length : Int) then ((spec_l1Reads.f (rd y526 bt529.1) 0 0).bind fun t533 => (if t533 = true then (spec_l71Do.j0 k a1 true s0_0 bt529.2 (rd y526 bt529.1) 0 0) else ((spec_l1Writes.f (rd y526 bt529.1) 0 0).bind fun t534 => (spec_l71Do.j0 k a1 t534 s0_0 bt529.2 (rd y526 bt529.1) 0 0)))) else (none)) else (none)))) = some (r1, r2, r3, r4) := h
 clear h
 obtain ⟨y526, hy526⟩ : ∃ y_ : List Int, y_ = (([1, 1, 1, 2, 2, 2, 3, 4, 5, 6] : List Int)) := ⟨_, rfl⟩
 replace H : ((spec_l6Rd_pick.f k s0_0 s0_1 10).bind fun bt529 => (if 0 ≤ bt529.1 then (if bt529.1 < (y526.length : Int) then ((spec_l1Reads.f (rd y526 bt529.1) 0 0).bind fun t533 => (if t533 = true then (spec_l71Do.j0 k a1 true s0_0 bt529.2 (rd y526 bt529.1) 0 0) else ((spec_l1Writes.f (rd y526 bt529.1) 0 0).bind fun t534 => (spec_l71Do.j0 k a1 t534 s0_0 bt529.2 (rd y526 bt529.1) 0 0)))) else (none)) else (none))) = some (r1, r2, r3, r4) := by first | (rw [hy526]; with_reducible exact H) | (have H2_ := (Option.bind_some _ _).symm.trans H; rw [hy526]; with_reducible exact H2_) | (have H2_ := (Option.bind_some _ _).symm.trans H; with_reducible exact H2_) | with_reducible exact H | (rw [hy526]; exact H) | exact H
 have Ny526 := am_ hy526
 clear hy526
 replace H := Option.bind_eq_some_iff.mp H
 obtain ⟨⟨t529, t530⟩, A30, H⟩ := H
 replace H : (if 0 ≤ t529 then (if t529 < (y526.length : Int) then ((spec_l1Reads.f (rd y526 t529) 0 0).bind fun t533 => (if t533 = true then (spec_l71Do.j0 k a1 true s0_0 t530 (rd y526 t529) 0 0) else ((spec_l1Writes.f (rd y526 t529) 0 0).bind fun t534 => (spec_l71Do.j0 k a1 t534 s0_0 t530 (rd y526 t529) 0 0)))) else (none)) else (none)) = some (r1, r2, r3, r4) := H
 have A3 := am_ A30
 clear A30
 by_cases c4 : 0 ≤ t529
 ·rw [if_pos c4] at H
  have c4b0 : decide (0 ≤ t529) = true := decide_eq_true c4
  clear c4
  by_cases c5 : t529 < (y526.length : Int)
  ·rw [if_pos c5] at H
   have c5b0 : decide (t529 < (y526.length : Int)) = true := decide_eq_true c5
   clear c5
   have HC6 := am_ H
   clear H
   go_enter Try.func121, Try.ntmps121
   go_upto_region 2 with (first | ((with_reducible refine gate_dst (N := 4) rfl ?_); refine box_event ?hg (N := 4) ?hd (cs := #[.int .i64 0, .int .i64 0, .int .i64 0]) (t := 85) ?hr ?_; (case hd => rfl); (case hg => rfl); (case hr => first | (go_simp; done) | (go_simp; rfl)); intro gb525 hg w7 hbox hb; have n0_ := am_ (IsS116.below (by repeat (first | (with_reducible first | exact HI0.out | apply IsS116.alloc | apply IsS116.drewN | apply IsS116.drew | apply IsS116.set_1) | exact HI0.out)) hb); have n1_ := am_ (KeepBut.trans z121_2 (KeepBut.of_below hb g none) (.inl rfl)); have n2_ := am_ (below_step (by repeat (first | (with_reducible first | exact HB.out | apply below_alloc | apply pw_below_drewN | apply below_drew1 | refine below_set ?_ (IsS116.ge HI0.out)) | exact HB.out)) hb); have n3_ := am_ (hbox); have n4_ := am_ (by rw [hg]; exact (keep_size (w := w) (g := g) (row := none) z121_2) : w.heap.size ≤ gb525); have n5_ := am_ (Nat.le_trans HW0.out (by rw [hg]; exact (keep_size (w := w) (g := g) (row := none) z121_2) : w.heap.size ≤ gb525) : w0.heap.size ≤ gb525); have n6_ := am_ (by rw [hg]; exact Nat.ne_of_lt (IsS116.lt (show IsS116 w0 _ g s0_0 s0_1 from by repeat (first | (with_reducible first | exact HI0.out | apply IsS116.alloc | apply IsS116.drewN | apply IsS116.drew | apply IsS116.set_1) | exact HI0.out))) : g ≠ gb525); have n7_ := am_ (by rw [hg]; exact Nat.ne_of_gt (IsS116.lt (show IsS116 w0 _ g s0_0 s0_1 from by repeat (first | (with_reducible first | exact HI0.out | apply IsS116.alloc | apply IsS116.drewN | apply IsS116.drew | apply IsS116.set_1) | exact HI0.out))) : gb525 ≠ g); clear HI0 HK HB; have HI0 := n0_; have HK := n1_; have HB := n2_; have BK525 := n3_; have GW525 := n4_; have GE525 := n5_; have NB0_525 := n6_; have NB525_0 := n7_; clear n0_ n1_ n2_ n3_ n4_ n5_ n6_ n7_; clear hb hbox hg) | ((with_reducible refine gate_dst (N := 6) rfl ?_); refine Kd.R_lit (Kd.int .i64) _ 3 ?hg (N := 6) ?hd (xs := ([1, 1, 1, 2, 2, 2, 3, 4, 5, 6] : List Int)) (inner := [.int .i64 1, .int .i64 1, .int .i64 1, .int .i64 2, .int .i64 2, .int .i64 2, .int .i64 3, .int .i64 4, .int .i64 5, .int .i64 6]) (ok := fun _ => True) (okp := fun _ => True) ?hr ?hp (fun _ hk => hk) trivial (Below.refl _ _) (Nat.le_refl _) (by simp) ?_; (case hd => rfl); (case hg => rfl); (case hr => first | (go_simp; done) | (go_simp; rfl)); (case hp => exact (Reps.one (show Kd.M (Kd.int .i64) _ _ _ 1 [.int .i64 1] from rfl) (Reps.one (show Kd.M (Kd.int .i64) _ _ _ 1 [.int .i64 1] from rfl) (Reps.one (show Kd.M (Kd.int .i64) _ _ _ 1 [.int .i64 1] from rfl) (Reps.one (show Kd.M (Kd.int .i64) _ _ _ 2 [.int .i64 2] from rfl) (Reps.one (show Kd.M (Kd.int .i64) _ _ _ 2 [.int .i64 2] from rfl) (Reps.one (show Kd.M (Kd.int .i64) _ _ _ 2 [.int .i64 2] from rfl) (Reps.one (show Kd.M (Kd.int .i64) _ _ _ 3 [.int .i64 3] from rfl) (Reps.one (show Kd.M (Kd.int .i64) _ _ _ 4 [.int .i64 4] from rfl) (Reps.one (show Kd.M (Kd.int .i64) _ _ _ 5 [.int .i64 5] from rfl) (Reps.one (show Kd.M (Kd.int .i64) _ _ _ 6 [.int .i64 6] from rfl) (Reps.none _ _)))))))))))); intro v527 w8 ho9 hb hg_ hnew_; clear hg_ hnew_; (first | rw [← Ny526.out] at ho9 | (simp only [Int.reduceToNat] at ho9; rw [← Ny526.out] at ho9)); have n0_ := am_ (Kd.R_lower ho9 (keep_size (w := w) (g := g) (row := none) z121_3)); have n1_ := am_ (IsS116.below z121_4 hb); have n2_ := am_ (blk_below (bu BK525.out) hb); have n3_ := am_ (KeepBut.trans z121_3 (KeepBut.of_below hb g none) (.inl rfl)); have n4_ := am_ (below_step z121_5 hb); clear HI0 BK525 HK HB; have HO528 := n0_; have HI0 := n1_; have BK525 := n2_; have HK := n3_; have HB := n4_; clear n0_ n1_ n2_ n3_ n4_; clear hb ho9) | ((with_reducible refine gate_callee (f := 71) rfl ?_); refine goesL_ (some 8) rfl rfl Try.func71 (by kernel_rfl) rfl #[.pointer (some ⟨g, 0, none⟩), .int .i64 10] rfl (by (try simp only [List.map_toArray, List.map_cons, List.map_nil]); first | done | rfl | (simp only [List.length_drop, List.length_take]; rfl)) ?_; (with_reducible refine (spec_l6Rd_pick.calls k g s0_0 s0_1 10 t529 t530 w0 _ ?side1 ?side2 A3.out).mono ?_); (case side1 => repeat (first | (with_reducible first | exact HI0.out | apply IsS116.alloc | apply IsS116.drewN | apply IsS116.drew | apply IsS116.set_1 | refine IsS116.far ?_ NB0_525.out _) | exact HI0.out)); (case side2 => repeat (first | (with_reducible first | exact HB.out | apply below_alloc | apply pw_below_drewN | apply below_drew1 | refine below_set ?_ (IsS116.ge HI0.out) | refine below_set ?_ GE525.out) | exact HB.out)); rintro e w10 ⟨rfl, hi, hb, hk⟩; refine ⟨_, rfl, ?_⟩; replace BK525 := am_ (KeepBut.blk hk (bu BK525.out) NB525_0.out (by simp)); replace HO528 := am_ (Kd.R_mono (Kd.R_keep (IsS116.apart (show IsS116 w0 _ g s0_0 s0_1 from by repeat (first | (with_reducible first | exact HI0.out | apply IsS116.alloc | apply IsS116.drewN | apply IsS116.drew | apply IsS116.set_1 | refine IsS116.far ?_ NB0_525.out _) | exact HI0.out)) (ru HO528.out) (by decide)) hk (fun _ h => h.2)) (fun _ h => h.1)); replace HK := am_ (KeepBut.trans z121_3 hk (.inl rfl)); replace HB := am_ (hb); replace HI0 := am_ (hi); (try clear hb); (try clear hb2); (try clear hk); (try clear hi); obtain ⟨Ao11, co11, eo11⟩ := Kd.R_slice HO528.out; subst eo11; have p531 : 0 ≤ (t529 : Int) := of_decide_eq_true (by first | (with_reducible assumption) | assumption); have q531 : t529 < (y526.length : Int) := of_decide_eq_true (by first | (with_reducible assumption) | assumption); obtain ⟨ad531, e531, hx531_0⟩ := Kd.at_int (Kd.R_reads' HO528.out).2.2 t529 p531 q531; cases e531; replace p531 := eq_true p531; replace q531 := eq_true q531) | ((with_reducible refine gate_dst (N := 5) rfl ?_); refine box_event ?hg (N := 5) ?hd (cs := #[.int .i64 0, .int .i64 0, .int .i64 0]) (t := 85) ?hr ?_; (case hd => rfl); (case hg => rfl); (case hr => first | (go_simp; done) | (go_simp; rfl)); intro gb532 hg w12 hbox hb; have n0_ := am_ (Kd.R_below (ru HO528.out) hb); have n1_ := am_ (IsS116.below z121_4 hb); have n2_ := am_ (blk_below (bu BK525.out) hb); have n3_ := am_ (KeepBut.trans z121_3 (KeepBut.of_below hb g none) (.inl rfl)); have n4_ := am_ (below_step z121_5 hb); have n5_ := am_ (hbox); have n6_ := am_ (by rw [hg]; exact (keep_size (w := w) (g := g) (row := none) z121_3) : w.heap.size ≤ gb532); have n7_ := am_ (Nat.le_trans HW0.out (by rw [hg]; exact (keep_size (w := w) (g := g) (row := none) z121_3) : w.heap.size ≤ gb532) : w0.heap.size ≤ gb532); have n8_ := am_ (by rw [hg]; exact Nat.ne_of_lt (blk_lt (bu BK525.out)) : gb525 ≠ gb532); have n9_ := am_ (by rw [hg]; exact Nat.ne_of_gt (blk_lt (bu BK525.out)) : gb532 ≠ gb525); have n10_ := am_ (by rw [hg]; exact Nat.ne_of_lt (IsS116.lt (show IsS116 w0 _ g s0_0 t530 from by repeat (first | (with_reducible first | exact HI0.out | apply IsS116.alloc | apply IsS116.drewN | apply IsS116.drew | apply IsS116.set_1 | refine IsS116.far ?_ NB0_525.out _) | exact HI0.out))) : g ≠ gb532); have n11_ := am_ (by rw [hg]; exact Nat.ne_of_gt (IsS116.lt (show IsS116 w0 _ g s0_0 t530 from by repeat (first | (with_reducible first | exact HI0.out | apply IsS116.alloc | apply IsS116.drewN | apply IsS116.drew | apply IsS116.set_1 | refine IsS116.far ?_ NB0_525.out _) | exact HI0.out))) : gb532 ≠ g); clear HO528 HI0 BK525 HK HB; have HO528 := n0_; have HI0 := n1_; have BK525 := n2_; have HK := n3_; have HB := n4_; have BK532 := n5_; have GW532 := n6_; have GE532 := n7_; have NB525_532 := n8_; have NB532_525 := n9_; have NB0_532 := n10_; have NB532_0 := n11_; clear n0_ n1_ n2_ n3_ n4_ n5_ n6_ n7_ n8_ n9_ n10_ n11_; clear hb hbox hg; have hnb13 := NB532_525.out; have hnc13 := NB525_532.out; have hnb14 := NB532_0.out; have hnc14 := NB0_532.out; have hcz15_0 := cf0 BK532.out; have hcz15_1 := cf1 BK532.out; have hcz15_2 := cf2 BK532.out; have hfz15_0 := blk_frozen BK532.out 0; have hfz15_1 := blk_frozen BK532.out 1; have hfz15_2 := blk_frozen BK532.out 2))
   (try simp only [Act.put, List.setIfInBounds_toArray, List.set_cons_zero, List.set_cons_succ])
   go_cut [17] (fun v17 wc => ∃ (kq : Nat) (x17_5 : Bool), v17 = .bool x17_5 ∧ Aside0 (spec_l71Do.j0 kq a1 x17_5 s0_0 t530 (rd y526 t529) 0 0 = some (r1, r2, r3, r4)) ∧ Aside0 (kq ≤ k) ∧ Aside0 (wc.heap[gb525]? = some (.cells #[.int .i64 0, .int .i64 0, .int .i64 0] 85 (0, 0))) ∧ Aside0 (wc.heap[gb532]? = some (.cells #[.int .i64 (rd y526 t529), .int .i64 0, .int .i64 0] 85 (0, 0))) ∧ Aside0 (IsS116 w0 wc g s0_0 t530) ∧ Aside0 (KeepBut w wc g none) ∧ Aside0 (Below w0.heap.size w0 wc))
   case first =>
    have H := HC6.out
    clear HC6
    replace H := Option.bind_eq_some_iff.mp H
    obtain ⟨t533, A160, H⟩ := H
    replace H : (if t533 = true then (spec_l71Do.j0 k a1 true s0_0 t530 (rd y526 t529) 0 0) else ((spec_l1Writes.f (rd y526 t529) 0 0).bind fun t534 => (spec_l71Do.j0 k a1 t534 s0_0 t530 (rd y526 t529) 0 0))) = some (r1, r2, r3, r4) := H
    have A16 := am_ A160
    clear A160
    by_cases c17 : t533 = true
    ·subst c17
     have H1 : (spec_l71Do.j0 k a1 true s0_0 t530 (rd y526 t529) 0 0) = some (r1, r2, r3, r4) := by rw [if_pos rfl] at H; exact H
     clear H
     have H := H1
     clear H1
     have H' := am_ H
     clear H
     have hnb18 := NB532_525.out
     have hnc18 := NB525_532.out
     have hnb19 := NB532_0.out
     have hnc19 := NB0_532.out
     have hcz20_0 := cf0 BK532.out
     have hcz20_1 := cf1 BK532.out
     have hcz20_2 := cf2 BK532.out
     have hfz20_0 := blk_frozen BK532.out 0
     have hfz20_1 := blk_frozen BK532.out 1
     have hfz20_2 := blk_frozen BK532.out 2
     go_wp2_with (first | ((with_reducible refine gate_callee (f := 87) rfl ?_); refine goesL_ (some 13) rfl rfl Try.func87 (by kernel_rfl) rfl #[.agg #[.int .i64 (rd y526 t529), .int .i64 0, .int .i64 0]] rfl (by (try simp only [List.map_toArray, List.map_cons, List.map_nil]); first | done | rfl | (simp only [List.length_drop, List.length_take]; rfl)) ?_; (with_reducible refine (spec_l1Reads.calls (rd y526 t529) 0 0 true _ A16.out).mono ?_); rintro e w21 ⟨rfl, hb⟩; refine ⟨_, rfl, ?_⟩; have n0_ := am_ (Kd.R_below (ru (Kd.R_mono (Kd.R_far (p := ⟨gb532, 2, none⟩) (Kd.R_far (p := ⟨gb532, 1, none⟩) (Kd.R_far (p := ⟨gb532, 0, none⟩) (Kd.R_types HO528.out BK532.out (by decide)) (fun _ hk => hk.2) (.int .i64 (rd y526 t529))) (fun _ hk => hk.2) (.int .i64 0)) (fun _ hk => hk.2) (.int .i64 0)) (fun _ h_ => h_.1))) hb); have n1_ := am_ (IsS116.below (show IsS116 w0 (((w12.setCell ⟨gb532, 0, none⟩ (.int .i64 (rd y526 t529))).setCell ⟨gb532, 1, none⟩ (.int .i64 0)).setCell ⟨gb532, 2, none⟩ (.int .i64 0)) g s0_0 t530 from by repeat (first | (with_reducible first | exact HI0.out | apply IsS116.alloc | apply IsS116.drewN | apply IsS116.drew | apply IsS116.set_1 | refine IsS116.far ?_ NB0_525.out _ | refine IsS116.far ?_ NB0_532.out _) | exact HI0.out)) hb); have n2_ := am_ (blk_below (g := gb525) (o := .cells #[.int .i64 0, .int .i64 0, .int .i64 0] 85 (0, 0)) z121_12 hb); have n3_ := am_ (blk_below (g := gb532) (o := .cells #[.int .i64 (rd y526 t529), .int .i64 0, .int .i64 0] 85 (0, 0)) z121_11 hb); have n4_ := am_ (KeepBut.trans z121_6 (KeepBut.of_below hb g none) (.inl rfl)); have n5_ := am_ (below_step z121_8 hb); clear HO528 HI0 BK525 BK532 HK HB; have HO528 := n0_; have HI0 := n1_; have BK525 := n2_; have BK532 := n3_; have HK := n4_; have HB := n5_; clear n0_ n1_ n2_ n3_ n4_ n5_; (try clear hb); (try clear hb2); (try clear hk); (try clear hi)))
     go_meet
     case rel => exact ⟨_, (true), (by first | rfl | (simp; done) | (simp [*]; done)), H', ⟨by first | omega | exact Nat.le_refl _⟩, ⟨bu BK525.out⟩, ⟨bu BK532.out⟩, ⟨z121_7⟩, ⟨z121_6⟩, ⟨z121_8⟩⟩
    replace c17 := Bool.eq_false_iff.mpr c17
    subst c17
    have H1 : ((spec_l1Writes.f (rd y526 t529) 0 0).bind fun t534 => (spec_l71Do.j0 k a1 t534 s0_0 t530 (rd y526 t529) 0 0)) = some (r1, r2, r3, r4) := by rw [if_neg (show ¬ (false = true) by decide)] at H; exact H
    clear H
    have H := H1
    clear H1
    replace H := Option.bind_eq_some_iff.mp H
    obtain ⟨t534, A220, H⟩ := H
    replace H : (spec_l71Do.j0 k a1 t534 s0_0 t530 (rd y526 t529) 0 0) = some (r1, r2, r3, r4) := H
    have A22 := am_ A220
    clear A220
    have H' := am_ H
    clear H
    have hnb23 := NB532_525.out
    have hnc23 := NB525_532.out
    have hnb24 := NB532_0.out
    have hnc24 := NB0_532.out
    have hcz25_0 := cf0 BK532.out
    have hcz25_1 := cf1 BK532.out
    have hcz25_2 := cf2 BK532.out
    have hfz25_0 := blk_frozen BK532.out 0
    have hfz25_1 := blk_frozen BK532.out 1
    have hfz25_2 := blk_frozen BK532.out 2
    go_wp2_with (first | ((with_reducible refine gate_callee (f := 87) rfl ?_); refine goesL_ (some 13) rfl rfl Try.func87 (by kernel_rfl) rfl #[.agg #[.int .i64 (rd y526 t529), .int .i64 0, .int .i64 0]] rfl (by (try simp only [List.map_toArray, List.map_cons, List.map_nil]); first | done | rfl | (simp only [List.length_drop, List.length_take]; rfl)) ?_; (with_reducible refine (spec_l1Reads.calls (rd y526 t529) 0 0 false _ A16.out).mono ?_); rintro e w26 ⟨rfl, hb⟩; refine ⟨_, rfl, ?_⟩; have n0_ := am_ (Kd.R_below (ru (Kd.R_mono (Kd.R_far (p := ⟨gb532, 2, none⟩) (Kd.R_far (p := ⟨gb532, 1, none⟩) (Kd.R_far (p := ⟨gb532, 0, none⟩) (Kd.R_types HO528.out BK532.out (by decide)) (fun _ hk => hk.2) (.int .i64 (rd y526 t529))) (fun _ hk => hk.2) (.int .i64 0)) (fun _ hk => hk.2) (.int .i64 0)) (fun _ h_ => h_.1))) hb); have n1_ := am_ (IsS116.below (show IsS116 w0 (((w12.setCell ⟨gb532, 0, none⟩ (.int .i64 (rd y526 t529))).setCell ⟨gb532, 1, none⟩ (.int .i64 0)).setCell ⟨gb532, 2, none⟩ (.int .i64 0)) g s0_0 t530 from by repeat (first | (with_reducible first | exact HI0.out | apply IsS116.alloc | apply IsS116.drewN | apply IsS116.drew | apply IsS116.set_1 | refine IsS116.far ?_ NB0_525.out _ | refine IsS116.far ?_ NB0_532.out _) | exact HI0.out)) hb); have n2_ := am_ (blk_below (g := gb525) (o := .cells #[.int .i64 0, .int .i64 0, .int .i64 0] 85 (0, 0)) z121_12 hb); have n3_ := am_ (blk_below (g := gb532) (o := .cells #[.int .i64 (rd y526 t529), .int .i64 0, .int .i64 0] 85 (0, 0)) z121_11 hb); have n4_ := am_ (KeepBut.trans z121_6 (KeepBut.of_below hb g none) (.inl rfl)); have n5_ := am_ (below_step z121_8 hb); clear HO528 HI0 BK525 BK532 HK HB; have HO528 := n0_; have HI0 := n1_; have BK525 := n2_; have BK532 := n3_; have HK := n4_; have HB := n5_; clear n0_ n1_ n2_ n3_ n4_ n5_; (try clear hb); (try clear hb2); (try clear hk); (try clear hi); have hcz27_0 := cf0 BK532.out; have hcz27_1 := cf1 BK532.out; have hcz27_2 := cf2 BK532.out; have hfz27_0 := blk_frozen BK532.out 0; have hfz27_1 := blk_frozen BK532.out 1; have hfz27_2 := blk_frozen BK532.out 2) | (go_at_call 88; (with_reducible refine (spec_l1Writes.calls (rd y526 t529) 0 0 t534 _ A22.out).mono ?_); rintro e w28 ⟨rfl, hb⟩; have n0_ := am_ (Kd.R_below (ru HO528.out) hb); have n1_ := am_ (IsS116.below z121_7 hb); have n2_ := am_ (blk_below (bu BK525.out) hb); have n3_ := am_ (blk_below (bu BK532.out) hb); have n4_ := am_ (KeepBut.trans z121_6 (KeepBut.of_below hb g none) (.inl rfl)); have n5_ := am_ (below_step z121_8 hb); clear HO528 HI0 BK525 BK532 HK HB; have HO528 := n0_; have HI0 := n1_; have BK525 := n2_; have BK532 := n3_; have HK := n4_; have HB := n5_; clear n0_ n1_ n2_ n3_ n4_ n5_; (try clear hb); (try clear hb2); (try clear hk); (try clear hi)))
    go_meet
    case rel => exact ⟨_, (t534), (by first | rfl | (simp; done) | (simp [*]; done)), H', ⟨by first | omega | exact Nat.le_refl _⟩, ⟨bu BK525.out⟩, ⟨bu BK532.out⟩, ⟨z121_7⟩, ⟨z121_6⟩, ⟨z121_8⟩⟩
   case rest =>
    clear HC6
    obtain ⟨kq, x17_5, rfl, HA, HJ5, BK525, BK532, HI0, HK, HB⟩ := hcut
    cases kq with
    | zero => exact absurd HA.out (by simp [spec_l71Do.j0])
    | succ kj5 =>
     have H := HA.out
     clear HA
     simp only [spec_l71Do.j0] at H
     by_cases c29 : x17_5 = true
     ·subst c29
      have H1 : ((spec_l6Rd_pick.f kj5 s0_0 t530 a1).bind fun bt535 => (if (rd y526 t529) = 1 then ((spec_l6Rd_pick.f kj5 s0_0 bt535.2 3).bind fun bt537 => (some ((rd y526 t529), bt535.1, wrap64 (1 + bt537.1), bt537.2))) else (if (rd y526 t529) = 6 then ((spec_l6Rd_pick.f kj5 s0_0 bt535.2 3).bind fun bt539 => (some ((rd y526 t529), bt535.1, wrap64 (1 + bt539.1), bt539.2))) else (some ((rd y526 t529), bt535.1, 0, bt535.2))))) = some (r1, r2, r3, r4) := by rw [if_pos rfl] at H; exact H
      clear H
      have H := H1
      clear H1
      replace H := Option.bind_eq_some_iff.mp H
      obtain ⟨⟨t535, t536⟩, A300, H⟩ := H
      replace H : (if (rd y526 t529) = 1 then ((spec_l6Rd_pick.f kj5 s0_0 t536 3).bind fun bt537 => (some ((rd y526 t529), t535, wrap64 (1 + bt537.1), bt537.2))) else (if (rd y526 t529) = 6 then ((spec_l6Rd_pick.f kj5 s0_0 t536 3).bind fun bt539 => (some ((rd y526 t529), t535, wrap64 (1 + bt539.1), bt539.2))) else (some ((rd y526 t529), t535, 0, t536)))) = some (r1, r2, r3, r4) := H
      have A30 := am_ A300
      clear A300
      by_cases c31 : (rd y526 t529) = 1
      ·rw [if_pos c31] at H
       have c31b0 : ((rd y526 t529) == 1) = true := beq_iff_eq.mpr c31
       have c31b1 : ((rd y526 t529) != 1) = false := bne_eq_false_iff_eq.mpr c31
       clear c31
       replace H := Option.bind_eq_some_iff.mp H
       obtain ⟨⟨t537, t538⟩, A320, H⟩ := H
       replace H : (some ((rd y526 t529), t535, wrap64 (1 + t537), t538)) = some (r1, r2, r3, r4) := H
       have A32 := am_ A320
       clear A320
       simp only [Option.some.injEq, Prod.mk.injEq] at H
       obtain ⟨rfl, rfl, rfl, rfl⟩ := H
       go_wp2_with (first | ((with_reducible refine gate_callee (f := 71) rfl ?_); refine goesL_ (some 20) rfl rfl Try.func71 (by kernel_rfl) rfl #[.pointer (some ⟨g, 0, none⟩), .int .i64 a1] rfl (by (try simp only [List.map_toArray, List.map_cons, List.map_nil]); first | done | rfl | (simp only [List.length_drop, List.length_take]; rfl)) ?_; (with_reducible refine (spec_l6Rd_pick.calls kj5 g s0_0 t530 a1 t535 t536 w0 _ ?side1 ?side2 A30.out).mono ?_); (case side1 => repeat (first | (with_reducible first | exact HI0.out | apply IsS116.alloc | apply IsS116.drewN | apply IsS116.drew | apply IsS116.set_1 | refine IsS116.far ?_ NB0_525.out _ | refine IsS116.far ?_ NB0_532.out _) | exact HI0.out)); (case side2 => repeat (first | (with_reducible first | exact HB.out | apply below_alloc | apply pw_below_drewN | apply below_drew1 | refine below_set ?_ (IsS116.ge HI0.out) | refine below_set ?_ GE525.out | refine below_set ?_ GE532.out) | exact HB.out)); rintro e w33 ⟨rfl, hi, hb, hk⟩; refine ⟨_, rfl, ?_⟩; replace BK525 := am_ (KeepBut.blk hk (bu BK525.out) NB525_0.out (by simp)); replace BK532 := am_ (KeepBut.blk hk (bu BK532.out) NB532_0.out (by simp)); replace HK := am_ (KeepBut.trans z121_6 hk (.inl rfl)); replace HB := am_ (hb); replace HI0 := am_ (hi); (try clear hb); (try clear hb2); (try clear hk); (try clear hi); have hnb34 := NB532_525.out; have hnc34 := NB525_532.out; have hnb35 := NB532_0.out; have hnc35 := NB0_532.out; have hcz36_0 := cf0 BK532.out; have hcz36_1 := cf1 BK532.out; have hcz36_2 := cf2 BK532.out; have hfz36_0 := blk_frozen BK532.out 0; have hfz36_1 := blk_frozen BK532.out 1; have hfz36_2 := blk_frozen BK532.out 2) | ((with_reducible refine gate_callee (f := 71) rfl ?_); refine goesL_ (some 31) rfl rfl Try.func71 (by kernel_rfl) rfl #[.pointer (some ⟨g, 0, none⟩), .int .i64 3] rfl (by (try simp only [List.map_toArray, List.map_cons, List.map_nil]); first | done | rfl | (simp only [List.length_drop, List.length_take]; rfl)) ?_; (with_reducible refine (spec_l6Rd_pick.calls kj5 g s0_0 t536 3 t537 t538 w0 _ ?side1 ?side2 A32.out).mono ?_); (case side1 => repeat (first | (with_reducible first | exact HI0.out | apply IsS116.alloc | apply IsS116.drewN | apply IsS116.drew | apply IsS116.set_1 | refine IsS116.far ?_ NB0_525.out _ | refine IsS116.far ?_ NB0_532.out _) | exact HI0.out)); (case side2 => repeat (first | (with_reducible first | exact HB.out | apply below_alloc | apply pw_below_drewN | apply below_drew1 | refine below_set ?_ (IsS116.ge HI0.out) | refine below_set ?_ GE525.out | refine below_set ?_ GE532.out) | exact HB.out)); rintro e w37 ⟨rfl, hi, hb, hk⟩; refine ⟨_, rfl, ?_⟩; replace BK525 := am_ (KeepBut.blk hk (g' := gb525) (o := .cells #[.int .i64 0, .int .i64 0, .int .i64 0] 85 (0, 0)) z121_9 NB525_0.out (by simp)); replace BK532 := am_ (KeepBut.blk hk (g' := gb532) (o := .cells #[.int .i64 (rd y526 t529), .int .i64 t535, .int .i64 0] 85 (0, 0)) z121_10 NB532_0.out (by simp)); replace HK := am_ (KeepBut.trans z121_6 hk (.inl rfl)); replace HB := am_ (hb); replace HI0 := am_ (hi); (try clear hb); (try clear hb2); (try clear hk); (try clear hi); have hcz38_0 := cf0 BK532.out; have hcz38_1 := cf1 BK532.out; have hcz38_2 := cf2 BK532.out; have hfz38_0 := blk_frozen BK532.out 0; have hfz38_1 := blk_frozen BK532.out 1; have hfz38_2 := blk_frozen BK532.out 2; have hnb39 := NB525_0.out; have hnc39 := NB0_525.out; have hcz40_0 := cf0 BK525.out; have hcz40_1 := cf1 BK525.out; have hcz40_2 := cf2 BK525.out; have hfz40_0 := blk_frozen BK525.out 0; have hfz40_1 := blk_frozen BK525.out 1; have hfz40_2 := blk_frozen BK525.out 2))
       refine bodyPost_ret (results_cell_row rfl _ _ gb525 85 #[.int .i64 (rd y526 t529), .int .i64 t535, .int .i64 (wrap64 (1 + t537))] (0, 0) _ rfl z121_14 Try.underlying85 rfl (by kernel_rfl)) rfl ?_
       exact ⟨z121_1, z121_7, z121_8, z121_6⟩
      rw [if_neg c31] at H
      have c31b0 : ((rd y526 t529) == 1) = false := beq_eq_false_iff_ne.mpr c31
      have c31b1 : ((rd y526 t529) != 1) = true := bne_iff_ne.mpr c31
      by_cases c41 : (rd y526 t529) = 6
      ·rw [if_pos c41] at H
       have c41b0 : ((rd y526 t529) == 6) = true := beq_iff_eq.mpr c41
       have c41b1 : ((rd y526 t529) != 6) = false := bne_eq_false_iff_eq.mpr c41
       clear c41
       replace H := Option.bind_eq_some_iff.mp H
       obtain ⟨⟨t539, t540⟩, A420, H⟩ := H
       replace H : (some ((rd y526 t529), t535, wrap64 (1 + t539), t540)) = some (r1, r2, r3, r4) := H
       have A42 := am_ A420
       clear A420
       simp only [Option.some.injEq, Prod.mk.injEq] at H
       obtain ⟨rfl, rfl, rfl, rfl⟩ := H
       go_wp2_with (first | ((with_reducible refine gate_callee (f := 71) rfl ?_); refine goesL_ (some 20) rfl rfl Try.func71 (by kernel_rfl) rfl #[.pointer (some ⟨g, 0, none⟩), .int .i64 a1] rfl (by (try simp only [List.map_toArray, List.map_cons, List.map_nil]); first | done | rfl | (simp only [List.length_drop, List.length_take]; rfl)) ?_; (with_reducible refine (spec_l6Rd_pick.calls kj5 g s0_0 t530 a1 t535 t536 w0 _ ?side1 ?side2 A30.out).mono ?_); (case side1 => repeat (first | (with_reducible first | exact HI0.out | apply IsS116.alloc | apply IsS116.drewN | apply IsS116.drew | apply IsS116.set_1 | refine IsS116.far ?_ NB0_525.out _ | refine IsS116.far ?_ NB0_532.out _) | exact HI0.out)); (case side2 => repeat (first | (with_reducible first | exact HB.out | apply below_alloc | apply pw_below_drewN | apply below_drew1 | refine below_set ?_ (IsS116.ge HI0.out) | refine below_set ?_ GE525.out | refine below_set ?_ GE532.out) | exact HB.out)); rintro e w43 ⟨rfl, hi, hb, hk⟩; refine ⟨_, rfl, ?_⟩; replace BK525 := am_ (KeepBut.blk hk (bu BK525.out) NB525_0.out (by simp)); replace BK532 := am_ (KeepBut.blk hk (bu BK532.out) NB532_0.out (by simp)); replace HK := am_ (KeepBut.trans z121_6 hk (.inl rfl)); replace HB := am_ (hb); replace HI0 := am_ (hi); (try clear hb); (try clear hb2); (try clear hk); (try clear hi); have hnb44 := NB532_525.out; have hnc44 := NB525_532.out; have hnb45 := NB532_0.out; have hnc45 := NB0_532.out; have hcz46_0 := cf0 BK532.out; have hcz46_1 := cf1 BK532.out; have hcz46_2 := cf2 BK532.out; have hfz46_0 := blk_frozen BK532.out 0; have hfz46_1 := blk_frozen BK532.out 1; have hfz46_2 := blk_frozen BK532.out 2) | ((with_reducible refine gate_callee (f := 71) rfl ?_); refine goesL_ (some 31) rfl rfl Try.func71 (by kernel_rfl) rfl #[.pointer (some ⟨g, 0, none⟩), .int .i64 3] rfl (by (try simp only [List.map_toArray, List.map_cons, List.map_nil]); first | done | rfl | (simp only [List.length_drop, List.length_take]; rfl)) ?_; (with_reducible refine (spec_l6Rd_pick.calls kj5 g s0_0 t536 3 t539 t540 w0 _ ?side1 ?side2 A42.out).mono ?_); (case side1 => repeat (first | (with_reducible first | exact HI0.out | apply IsS116.alloc | apply IsS116.drewN | apply IsS116.drew | apply IsS116.set_1 | refine IsS116.far ?_ NB0_525.out _ | refine IsS116.far ?_ NB0_532.out _) | exact HI0.out)); (case side2 => repeat (first | (with_reducible first | exact HB.out | apply below_alloc | apply pw_below_drewN | apply below_drew1 | refine below_set ?_ (IsS116.ge HI0.out) | refine below_set ?_ GE525.out | refine below_set ?_ GE532.out) | exact HB.out)); rintro e w47 ⟨rfl, hi, hb, hk⟩; refine ⟨_, rfl, ?_⟩; replace BK525 := am_ (KeepBut.blk hk (g' := gb525) (o := .cells #[.int .i64 0, .int .i64 0, .int .i64 0] 85 (0, 0)) z121_9 NB525_0.out (by simp)); replace BK532 := am_ (KeepBut.blk hk (g' := gb532) (o := .cells #[.int .i64 (rd y526 t529), .int .i64 t535, .int .i64 0] 85 (0, 0)) z121_10 NB532_0.out (by simp)); replace HK := am_ (KeepBut.trans z121_6 hk (.inl rfl)); replace HB := am_ (hb); replace HI0 := am_ (hi); (try clear hb); (try clear hb2); (try clear hk); (try clear hi); have hcz48_0 := cf0 BK532.out; have hcz48_1 := cf1 BK532.out; have hcz48_2 := cf2 BK532.out; have hfz48_0 := blk_frozen BK532.out 0; have hfz48_1 := blk_frozen BK532.out 1; have hfz48_2 := blk_frozen BK532.out 2; have hnb49 := NB525_0.out; have hnc49 := NB0_525.out; have hcz50_0 := cf0 BK525.out; have hcz50_1 := cf1 BK525.out; have hcz50_2 := cf2 BK525.out; have hfz50_0 := blk_frozen BK525.out 0; have hfz50_1 := blk_frozen BK525.out 1; have hfz50_2 := blk_frozen BK525.out 2))
       refine bodyPost_ret (results_cell_row rfl _ _ gb525 85 #[.int .i64 (rd y526 t529), .int .i64 t535, .int .i64 (wrap64 (1 + t539))] (0, 0) _ rfl z121_14 Try.underlying85 rfl (by kernel_rfl)) rfl ?_
       exact ⟨z121_1, z121_7, z121_8, z121_6⟩
      rw [if_neg c41] at H
      have c41b0 : ((rd y526 t529) == 6) = false := beq_eq_false_iff_ne.mpr c41
      have c41b1 : ((rd y526 t529) != 6) = true := bne_iff_ne.mpr c41
      simp only [Option.some.injEq, Prod.mk.injEq] at H
      obtain ⟨rfl, rfl, rfl, rfl⟩ := H
      go_wp2_with (first | ((with_reducible refine gate_callee (f := 71) rfl ?_); refine goesL_ (some 20) rfl rfl Try.func71 (by kernel_rfl) rfl #[.pointer (some ⟨g, 0, none⟩), .int .i64 a1] rfl (by (try simp only [List.map_toArray, List.map_cons, List.map_nil]); first | done | rfl | (simp only [List.length_drop, List.length_take]; rfl)) ?_; (with_reducible refine (spec_l6Rd_pick.calls kj5 g s0_0 t530 a1 t535 t536 w0 _ ?side1 ?side2 A30.out).mono ?_); (case side1 => repeat (first | (with_reducible first | exact HI0.out | apply IsS116.alloc | apply IsS116.drewN | apply IsS116.drew | apply IsS116.set_1 | refine IsS116.far ?_ NB0_525.out _ | refine IsS116.far ?_ NB0_532.out _) | exact HI0.out)); (case side2 => repeat (first | (with_reducible first | exact HB.out | apply below_alloc | apply pw_below_drewN | apply below_drew1 | refine below_set ?_ (IsS116.ge HI0.out) | refine below_set ?_ GE525.out | refine below_set ?_ GE532.out) | exact HB.out)); rintro e w51 ⟨rfl, hi, hb, hk⟩; refine ⟨_, rfl, ?_⟩; replace BK525 := am_ (KeepBut.blk hk (bu BK525.out) NB525_0.out (by simp)); replace BK532 := am_ (KeepBut.blk hk (bu BK532.out) NB532_0.out (by simp)); replace HK := am_ (KeepBut.trans z121_6 hk (.inl rfl)); replace HB := am_ (hb); replace HI0 := am_ (hi); (try clear hb); (try clear hb2); (try clear hk); (try clear hi); have hnb52 := NB532_525.out; have hnc52 := NB525_532.out; have hnb53 := NB532_0.out; have hnc53 := NB0_532.out; have hcz54_0 := cf0 BK532.out; have hcz54_1 := cf1 BK532.out; have hcz54_2 := cf2 BK532.out; have hfz54_0 := blk_frozen BK532.out 0; have hfz54_1 := blk_frozen BK532.out 1; have hfz54_2 := blk_frozen BK532.out 2; have hnb55 := NB525_0.out; have hnc55 := NB0_525.out; have hcz56_0 := cf0 BK525.out; have hcz56_1 := cf1 BK525.out; have hcz56_2 := cf2 BK525.out; have hfz56_0 := blk_frozen BK525.out 0; have hfz56_1 := blk_frozen BK525.out 1; have hfz56_2 := blk_frozen BK525.out 2))
      refine bodyPost_ret (results_cell_row rfl _ _ gb525 85 #[.int .i64 (rd y526 t529), .int .i64 t535, .int .i64 0] (0, 0) _ rfl z121_14 Try.underlying85 rfl (by kernel_rfl)) rfl ?_
      exact ⟨z121_1, z121_7, z121_8, z121_6⟩
     replace c29 := Bool.eq_false_iff.mpr c29
     subst c29
     have H1 : (if (rd y526 t529) = 1 then ((spec_l6Rd_pick.f kj5 s0_0 t530 3).bind fun bt541 => (some ((rd y526 t529), 0, wrap64 (1 + bt541.1), bt541.2))) else (if (rd y526 t529) = 6 then ((spec_l6Rd_pick.f kj5 s0_0 t530 3).bind fun bt543 => (some ((rd y526 t529), 0, wrap64 (1 + bt543.1), bt543.2))) else (some ((rd y526 t529), 0, 0, t530)))) = some (r1, r2, r3, r4) := by rw [if_neg (show ¬ (false = true) by decide)] at H; exact H
     clear H
     have H := H1
     clear H1
     by_cases c57 : (rd y526 t529) = 1
     ·rw [if_pos c57] at H
      have c57b0 : ((rd y526 t529) == 1) = true := beq_iff_eq.mpr c57
      have c57b1 : ((rd y526 t529) != 1) = false := bne_eq_false_iff_eq.mpr c57
      clear c57
      replace H := Option.bind_eq_some_iff.mp H
      obtain ⟨⟨t541, t542⟩, A580, H⟩ := H
      replace H : (some ((rd y526 t529), 0, wrap64 (1 + t541), t542)) = some (r1, r2, r3, r4) := H
      have A58 := am_ A580
      clear A580
      simp only [Option.some.injEq, Prod.mk.injEq] at H
      obtain ⟨rfl, rfl, rfl, rfl⟩ := H
      have hnb59 := NB532_525.out
      have hnc59 := NB525_532.out
      have hnb60 := NB532_0.out
      have hnc60 := NB0_532.out
      have hcz61_0 := cf0 BK532.out
      have hcz61_1 := cf1 BK532.out
      have hcz61_2 := cf2 BK532.out
      have hfz61_0 := blk_frozen BK532.out 0
      have hfz61_1 := blk_frozen BK532.out 1
      have hfz61_2 := blk_frozen BK532.out 2
      go_wp2_with (first | ((with_reducible refine gate_callee (f := 71) rfl ?_); refine goesL_ (some 31) rfl rfl Try.func71 (by kernel_rfl) rfl #[.pointer (some ⟨g, 0, none⟩), .int .i64 3] rfl (by (try simp only [List.map_toArray, List.map_cons, List.map_nil]); first | done | rfl | (simp only [List.length_drop, List.length_take]; rfl)) ?_; (with_reducible refine (spec_l6Rd_pick.calls kj5 g s0_0 t530 3 t541 t542 w0 _ ?side1 ?side2 A58.out).mono ?_); (case side1 => repeat (first | (with_reducible first | exact HI0.out | apply IsS116.alloc | apply IsS116.drewN | apply IsS116.drew | apply IsS116.set_1 | refine IsS116.far ?_ NB0_525.out _ | refine IsS116.far ?_ NB0_532.out _) | exact HI0.out)); (case side2 => repeat (first | (with_reducible first | exact HB.out | apply below_alloc | apply pw_below_drewN | apply below_drew1 | refine below_set ?_ (IsS116.ge HI0.out) | refine below_set ?_ GE525.out | refine below_set ?_ GE532.out) | exact HB.out)); rintro e w62 ⟨rfl, hi, hb, hk⟩; refine ⟨_, rfl, ?_⟩; replace BK525 := am_ (KeepBut.blk hk (bu BK525.out) NB525_0.out (by simp)); replace BK532 := am_ (KeepBut.blk hk (bu BK532.out) NB532_0.out (by simp)); replace HK := am_ (KeepBut.trans z121_6 hk (.inl rfl)); replace HB := am_ (hb); replace HI0 := am_ (hi); (try clear hb); (try clear hb2); (try clear hk); (try clear hi); have hcz63_0 := cf0 BK532.out; have hcz63_1 := cf1 BK532.out; have hcz63_2 := cf2 BK532.out; have hfz63_0 := blk_frozen BK532.out 0; have hfz63_1 := blk_frozen BK532.out 1; have hfz63_2 := blk_frozen BK532.out 2; have hnb64 := NB525_0.out; have hnc64 := NB0_525.out; have hcz65_0 := cf0 BK525.out; have hcz65_1 := cf1 BK525.out; have hcz65_2 := cf2 BK525.out; have hfz65_0 := blk_frozen BK525.out 0; have hfz65_1 := blk_frozen BK525.out 1; have hfz65_2 := blk_frozen BK525.out 2))
      refine bodyPost_ret (results_cell_row rfl _ _ gb525 85 #[.int .i64 (rd y526 t529), .int .i64 0, .int .i64 (wrap64 (1 + t541))] (0, 0) _ rfl z121_13 Try.underlying85 rfl (by kernel_rfl)) rfl ?_
      exact ⟨z121_1, z121_7, z121_8, z121_6⟩
     rw [if_neg c57] at H
     have c57b0 : ((rd y526 t529) == 1) = false := beq_eq_false_iff_ne.mpr c57
     have c57b1 : ((rd y526 t529) != 1) = true := bne_iff_ne.mpr c57
     by_cases c66 : (rd y526 t529) = 6
     ·rw [if_pos c66] at H
      have c66b0 : ((rd y526 t529) == 6) = true := beq_iff_eq.mpr c66
      have c66b1 : ((rd y526 t529) != 6) = false := bne_eq_false_iff_eq.mpr c66
      clear c66
      replace H := Option.bind_eq_some_iff.mp H
      obtain ⟨⟨t543, t544⟩, A670, H⟩ := H
      replace H : (some ((rd y526 t529), 0, wrap64 (1 + t543), t544)) = some (r1, r2, r3, r4) := H
      have A67 := am_ A670
      clear A670
      simp only [Option.some.injEq, Prod.mk.injEq] at H
      obtain ⟨rfl, rfl, rfl, rfl⟩ := H
      have hnb68 := NB532_525.out
      have hnc68 := NB525_532.out
      have hnb69 := NB532_0.out
      have hnc69 := NB0_532.out
      have hcz70_0 := cf0 BK532.out
      have hcz70_1 := cf1 BK532.out
      have hcz70_2 := cf2 BK532.out
      have hfz70_0 := blk_frozen BK532.out 0
      have hfz70_1 := blk_frozen BK532.out 1
      have hfz70_2 := blk_frozen BK532.out 2
      go_wp2_with (first | ((with_reducible refine gate_callee (f := 71) rfl ?_); refine goesL_ (some 31) rfl rfl Try.func71 (by kernel_rfl) rfl #[.pointer (some ⟨g, 0, none⟩), .int .i64 3] rfl (by (try simp only [List.map_toArray, List.map_cons, List.map_nil]); first | done | rfl | (simp only [List.length_drop, List.length_take]; rfl)) ?_; (with_reducible refine (spec_l6Rd_pick.calls kj5 g s0_0 t530 3 t543 t544 w0 _ ?side1 ?side2 A67.out).mono ?_); (case side1 => repeat (first | (with_reducible first | exact HI0.out | apply IsS116.alloc | apply IsS116.drewN | apply IsS116.drew | apply IsS116.set_1 | refine IsS116.far ?_ NB0_525.out _ | refine IsS116.far ?_ NB0_532.out _) | exact HI0.out)); (case side2 => repeat (first | (with_reducible first | exact HB.out | apply below_alloc | apply pw_below_drewN | apply below_drew1 | refine below_set ?_ (IsS116.ge HI0.out) | refine below_set ?_ GE525.out | refine below_set ?_ GE532.out) | exact HB.out)); rintro e w71 ⟨rfl, hi, hb, hk⟩; refine ⟨_, rfl, ?_⟩; replace BK525 := am_ (KeepBut.blk hk (bu BK525.out) NB525_0.out (by simp)); replace BK532 := am_ (KeepBut.blk hk (bu BK532.out) NB532_0.out (by simp)); replace HK := am_ (KeepBut.trans z121_6 hk (.inl rfl)); replace HB := am_ (hb); replace HI0 := am_ (hi); (try clear hb); (try clear hb2); (try clear hk); (try clear hi); have hcz72_0 := cf0 BK532.out; have hcz72_1 := cf1 BK532.out; have hcz72_2 := cf2 BK532.out; have hfz72_0 := blk_frozen BK532.out 0; have hfz72_1 := blk_frozen BK532.out 1; have hfz72_2 := blk_frozen BK532.out 2; have hnb73 := NB525_0.out; have hnc73 := NB0_525.out; have hcz74_0 := cf0 BK525.out; have hcz74_1 := cf1 BK525.out; have hcz74_2 := cf2 BK525.out; have hfz74_0 := blk_frozen BK525.out 0; have hfz74_1 := blk_frozen BK525.out 1; have hfz74_2 := blk_frozen BK525.out 2))
      refine bodyPost_ret (results_cell_row rfl _ _ gb525 85 #[.int .i64 (rd y526 t529), .int .i64 0, .int .i64 (wrap64 (1 + t543))] (0, 0) _ rfl z121_13 Try.underlying85 rfl (by kernel_rfl)) rfl ?_
      exact ⟨z121_1, z121_7, z121_8, z121_6⟩
     rw [if_neg c66] at H
     have c66b0 : ((rd y526 t529) == 6) = false := beq_eq_false_iff_ne.mpr c66
     have c66b1 : ((rd y526 t529) != 6) = true := bne_iff_ne.mpr c66
     simp only [Option.some.injEq, Prod.mk.injEq] at H
     obtain ⟨rfl, rfl, rfl, rfl⟩ := H
     have hnb75 := NB532_525.out
     have hnc75 := NB525_532.out
     have hnb76 := NB532_0.out
     have hnc76 := NB0_532.out
     have hcz77_0 := cf0 BK532.out
     have hcz77_1 := cf1 BK532.out
     have hcz77_2 := cf2 BK532.out
     have hfz77_0 := blk_frozen BK532.out 0
     have hfz77_1 := blk_frozen BK532.out 1
     have hfz77_2 := blk_frozen BK532.out 2
     have hnb78 := NB525_0.out
     have hnc78 := NB0_525.out
     have hcz79_0 := cf0 BK525.out
     have hcz79_1 := cf1 BK525.out
     have hcz79_2 := cf2 BK525.out
     have hfz79_0 := blk_frozen BK525.out 0
     have hfz79_1 := blk_frozen BK525.out 1
     have hfz79_2 := blk_frozen BK525.out 2
     go_wp2
     refine bodyPost_ret (results_cell_row rfl _ _ gb525 85 #[.int .i64 (rd y526 t529), .int .i64 0, .int .i64 0] (0, 0) _ rfl (by (with_reducible repeat (first | refine blk_drewN ?_ _ | refine blk_drew ?_ | refine blk_alloc ?_ _)); refine blk_put (cs := #[.int .i64 (rd y526 t529), .int .i64 0, .int .i64 0]) ?_ 2 _ rfl; (with_reducible repeat (first | refine blk_drewN ?_ _ | refine blk_drew ?_ | refine blk_alloc ?_ _)); refine blk_put (cs := #[.int .i64 (rd y526 t529), .int .i64 0, .int .i64 0]) ?_ 1 _ rfl; (with_reducible repeat (first | refine blk_drewN ?_ _ | refine blk_drew ?_ | refine blk_alloc ?_ _)); refine blk_put (cs := #[.int .i64 0, .int .i64 0, .int .i64 0]) ?_ 0 _ rfl; (with_reducible repeat (first | refine blk_drewN ?_ _ | refine blk_drew ?_ | refine blk_alloc ?_ _)); exact BK525.out) Try.underlying85 rfl (by kernel_rfl)) rfl ?_
     exact ⟨z121_1, z121_7, z121_8, z121_6⟩
  rw [if_neg c5] at H
  exact absurd H (by simp)
 rw [if_neg c4] at H
 exact absurd H (by simp)

end Go.Proofs.Ytefkbmhkhpekjaa.PB

namespace Go.Proofs.Ytefkbmhkhpekjaa.PB
open Go.RowKit Go.Proofs.YtefkbmhkhpekjaaW.PrintWords Go.Proofs.YtefkbmhkhpekjaaW.PrintLast Go.Proofs.YtefkbmhkhpekjaaW.PrintMore
attribute [local go_sem] max2_int min2_int max_two min_two max_three min_three max_four min_four   -- for this text's walks alone
open Go.Proofs.YtefkbmhkhpekjaaMine
set_option linter.unusedVariables false
set_option linter.unusedSimpArgs false

theorem z86_1 {p : Prop} (h : p := by repeat (first | (with_reducible first | exact HK.out | apply KeepBut.set_ | apply keep_drewN | apply keep_drew | apply keep_alloc) | exact HK.out)) : p := h
theorem z86_2 {p : Prop} (h : p := by repeat (first | (with_reducible first | exact HI0.out | apply IsS116.alloc | apply IsS116.drewN | apply IsS116.drew | apply IsS116.set_1) | exact HI0.out)) : p := h
theorem z86_3 {p : Prop} (h : p := by repeat (first | (with_reducible first | exact HB.out | apply below_alloc | apply pw_below_drewN | apply below_drew1 | refine below_set ?_ (IsS116.ge HI0.out)) | exact HB.out)) : p := h
/-! ### spec_l71Thread: function 86 -/
def spec_l71Thread.l0 : Nat → Int → List (S85) → Int → List Int → Int → Option ((List (S85)) × Int)
  | 0, _, _, _, _, _ => none
  | k + 1, x2, x7, x8, x01, x00 => if x8 > 0 then ((spec_l71Do.f k x01 x00 x2).bind fun bt550 => (if x7.length < 5864062014805 then (spec_l71Thread.l0 k x2 (x7 ++ [(⟨bt550.1, bt550.2.1, bt550.2.2.1⟩ : S85)]) (wrap64 (x8 - 1)) x01 bt550.2.2.2) else (none))) else (some (x7, x00))
def spec_l71Thread.f (k : Nat) (s0_0 : List Int) (s0_1 : Int) (a1 : Int) (a2 : Int) : Option ((List (S85)) × Int) := (spec_l6Rd_pick.f k s0_0 s0_1 (wrap64 (a1 + 1))).bind fun bt548 => (spec_l71Thread.l0 k a2 (([] : List (S85))) bt548.1 s0_0 bt548.2)
set_option maxHeartbeats 8000000 in
set_option maxRecDepth 100000 in
theorem spec_l71Thread.calls (k : Nat) (g : Nat) (s0_0 : List Int) (s0_1 : Int) (a1 : Int) (a2 : Int) (r1 : List (S85)) (r2 : Int) (w0 w : World) (hI : IsS116 w0 w g s0_0 s0_1) (hB : Below w0.heap.size w0 w) (h : spec_l71Thread.f k s0_0 s0_1 a1 a2 = some (r1, r2)) :
  Calls Try.prog 86 #[.pointer (some ⟨g, 0, none⟩), .int .i64 a1, .int .i64 a2] w fun e w' => ∃ v0_ : Value, e = .returned (v0_) ∧ Kd.R k85 85 w' w.heap.size (fun _ => True) v0_ r1 ∧ IsS116 w0 w' g s0_0 r2 ∧ Below w0.heap.size w0 w' ∧ KeepBut w w' g none := by
 have HI0 := am_ hI
 have HK := am_ (KeepBut.refl w g none)
 have HL := am_ hB.size
 clear hI
 have HW0 := am_ hB.size
 have HB := am_ hB
 clear hB
 have H : ((spec_l6Rd_pick.f k s0_0 s0_1 (wrap64 (a1 + 1))).bind fun bt548 => (spec_l71Thread.l0 k a2 (([] : List (S85))) bt548.1 s0_0 bt548.2)) = some (r1, r2) := h
 clear h
 obtain ⟨y545, hy545⟩ : ∃ y_ : List (S85), y_ = (([] : List (S85))) := ⟨_, rfl⟩
 replace H : ((spec_l6Rd_pick.f k s0_0 s0_1 (wrap64 (a1 + 1))).bind fun bt548 => (spec_l71Thread.l0 k a2 y545 bt548.1 s0_0 bt548.2)) = some (r1, r2) := by first | (rw [hy545]; with_reducible exact H) | (have H2_ := (Option.bind_some _ _).symm.trans H; rw [hy545]; with_reducible exact H2_) | (have H2_ := (Option.bind_some _ _).symm.trans H; with_reducible exact H2_) | with_reducible exact H | (rw [hy545]; exact H) | exact H
 have Ny545 := am_ hy545
 clear hy545
 replace H := Option.bind_eq_some_iff.mp H
 obtain ⟨⟨t548, t549⟩, A40, H⟩ := H
 replace H : (spec_l71Thread.l0 k a2 y545 t548 s0_0 t549) = some (r1, r2) := H
 have A4 := am_ A40
 clear A40
 have H' := am_ H
 clear H
 go_enter Try.func86, Try.ntmps86
 go_wp2_with (first | ((with_reducible refine gate_dst (N := 9) rfl ?_); refine Kd.R_lit k85 _ 85 ?hg (N := 9) ?hd (xs := ([] : List (S85))) (inner := []) (ok := fun _ => True) (okp := fun _ => True) ?hr ?hp (fun _ hk => hk) trivial (Below.refl _ _) (Nat.le_refl _) (by simp) ?_; (case hd => rfl); (case hg => rfl); (case hr => first | (go_simp; done) | (go_simp; rfl)); (case hp => exact (Reps.none _ _)); intro v546 w5 ho6 hb hg_ hnew_; clear hg_ hnew_; (first | rw [← Ny545.out] at ho6 | (simp only [Int.reduceToNat] at ho6; rw [← Ny545.out] at ho6)); have n0_ := am_ (Kd.R_lower ho6 (keep_size (w := w) (g := g) (row := none) z86_1)); have n1_ := am_ (IsS116.below z86_2 hb); have n2_ := am_ (KeepBut.trans z86_1 (KeepBut.of_below hb g none) (.inl rfl)); have n3_ := am_ (below_step z86_3 hb); clear HI0 HK HB; have HO547 := n0_; have HI0 := n1_; have HK := n2_; have HB := n3_; clear n0_ n1_ n2_ n3_; clear hb ho6) | ((with_reducible refine gate_callee (f := 71) rfl ?_); refine goesL_ (some 13) rfl rfl Try.func71 (by kernel_rfl) rfl #[.pointer (some ⟨g, 0, none⟩), .int .i64 (wrap64 (a1 + 1))] rfl (by (try simp only [List.map_toArray, List.map_cons, List.map_nil]); first | done | rfl | (simp only [List.length_drop, List.length_take]; rfl)) ?_; (with_reducible refine (spec_l6Rd_pick.calls k g s0_0 s0_1 (wrap64 (a1 + 1)) t548 t549 w0 _ ?side1 ?side2 A4.out).mono ?_); (case side1 => repeat (first | (with_reducible first | exact HI0.out | apply IsS116.alloc | apply IsS116.drewN | apply IsS116.drew | apply IsS116.set_1) | exact HI0.out)); (case side2 => repeat (first | (with_reducible first | exact HB.out | apply below_alloc | apply pw_below_drewN | apply below_drew1 | refine below_set ?_ (IsS116.ge HI0.out)) | exact HB.out)); rintro e w7 ⟨rfl, hi, hb, hk⟩; refine ⟨_, rfl, ?_⟩; replace HO547 := am_ (Kd.R_mono (Kd.R_keep (IsS116.apart (show IsS116 w0 _ g s0_0 s0_1 from by repeat (first | (with_reducible first | exact HI0.out | apply IsS116.alloc | apply IsS116.drewN | apply IsS116.drew | apply IsS116.set_1) | exact HI0.out)) (ru HO547.out) (by decide)) hk (fun _ h => h.2)) (fun _ h => h.1)); replace HK := am_ (KeepBut.trans z86_1 hk (.inl rfl)); replace HB := am_ (hb); replace HI0 := am_ (hi); (try clear hb); (try clear hb2); (try clear hk); (try clear hi)))
 go_loopg [7, 8] k (fun kq v7 v8 w' => ∃ (x7_1 : List (S85)) (x8_1 : Int) (x00_1 : Int), v8 = .int .i64 x8_1 ∧ Aside0 (spec_l71Thread.l0 kq a2 x7_1 x8_1 s0_0 x00_1 = some (r1, r2)) ∧ Aside0 (kq ≤ k) ∧ Aside0 (Kd.R k85 85 w' w.heap.size (fun _ => True) v7 x7_1) ∧ Aside0 (IsS116 w0 w' g s0_0 x00_1) ∧ Aside0 (KeepBut w w' g none) ∧ Aside0 (Below w0.heap.size w0 w'))
 case atStart => exact ⟨(y545), (t548), (t549), (by first | rfl | (simp; done) | (simp [*]; done)), H', ⟨Nat.le_refl _⟩, ⟨ru HO547.out⟩, ⟨z86_2⟩, ⟨z86_1⟩, ⟨z86_3⟩⟩
 case round =>
  clear H'
  obtain ⟨x7_1, x8_1, x00_1, rfl, HA, HK1, HO_7, HI0, HK, HB⟩ := hrel
  cases gk with
  | zero => exact absurd HA.out (by simp [spec_l71Thread.l0])
  | succ k1 =>
   have H := HA.out
   clear HA
   simp only [spec_l71Thread.l0] at H
   by_cases c8 : x8_1 > 0
   ·rw [if_pos c8] at H
    have c8b0 : decide (0 < x8_1) = true := decide_eq_true c8
    clear c8
    replace H := Option.bind_eq_some_iff.mp H
    obtain ⟨⟨t550, t551, t552, t553⟩, A90, H⟩ := H
    replace H : (if x7_1.length < 5864062014805 then (spec_l71Thread.l0 k1 a2 (x7_1 ++ [(⟨t550, t551, t552⟩ : S85)]) (wrap64 (x8_1 - 1)) s0_0 t553) else (none)) = some (r1, r2) := H
    have A9 := am_ A90
    clear A90
    by_cases c10 : x7_1.length < 5864062014805
    ·rw [if_pos c10] at H
     have LMc10 := am_ c10
     clear c10
     obtain ⟨y554, hy554⟩ : ∃ y_ : List (S85), y_ = (x7_1 ++ [(⟨t550, t551, t552⟩ : S85)]) := ⟨_, rfl⟩
     replace H : (spec_l71Thread.l0 k1 a2 y554 (wrap64 (x8_1 - 1)) s0_0 t553) = some (r1, r2) := by first | (rw [hy554]; with_reducible exact H) | (have H2_ := (Option.bind_some _ _).symm.trans H; rw [hy554]; with_reducible exact H2_) | (have H2_ := (Option.bind_some _ _).symm.trans H; with_reducible exact H2_) | with_reducible exact H | (rw [hy554]; exact H) | exact H
     have Ny554 := am_ hy554
     clear hy554
     have H' := am_ H
     clear H
     go_wp2_with (first | ((with_reducible refine gate_callee (f := 121) rfl ?_); refine goesL_ (some 21) rfl rfl Try.func121 (by kernel_rfl) rfl #[.pointer (some ⟨g, 0, none⟩), .int .i64 a2] rfl (by (try simp only [List.map_toArray, List.map_cons, List.map_nil]); first | done | rfl | (simp only [List.length_drop, List.length_take]; rfl)) ?_; (with_reducible refine (spec_l71Do.calls k1 g s0_0 x00_1 a2 t550 t551 t552 t553 w0 _ ?side1 ?side2 A9.out).mono ?_); (case side1 => repeat (first | (with_reducible first | exact HI0.out | apply IsS116.alloc | apply IsS116.drewN | apply IsS116.drew | apply IsS116.set_1) | exact HI0.out)); (case side2 => repeat (first | (with_reducible first | exact HB.out | apply below_alloc | apply pw_below_drewN | apply below_drew1 | refine below_set ?_ (IsS116.ge HI0.out)) | exact HB.out)); rintro e w11 ⟨rfl, hi, hb, hk⟩; refine ⟨_, rfl, ?_⟩; replace HO_7 := am_ (Kd.R_mono (Kd.R_keep (IsS116.apart (show IsS116 w0 _ g s0_0 x00_1 from by repeat (first | (with_reducible first | exact HI0.out | apply IsS116.alloc | apply IsS116.drewN | apply IsS116.drew | apply IsS116.set_1) | exact HI0.out)) (ru HO_7.out) (by decide)) hk (fun _ h => h.2)) (fun _ h => h.1)); replace HK := am_ (KeepBut.trans z86_1 hk (.inl rfl)); replace HB := am_ (hb); replace HI0 := am_ (hi); (try clear hb); (try clear hb2); (try clear hk); (try clear hi)) | ((with_reducible refine gate_builtin (b := .append) (xs := #[.tmp 18, .tmp 22]) rfl ?_); at_builtin; refine Kd.R_append k85 w.heap.size rfl (.tmp 18) (.tmp 22) 82 85 (.agg #[(.int .i64 0), (.int .i64 0), (.int .i64 0)]) 24 rfl Try.underlying82 info85 rfl (by decide) (by omega) u7 x7_1 (⟨t550, t551, t552⟩ : S85) [.int .i64 t550, .int .i64 t551, .int .i64 t552] (fun _ => True) (fun _ => False) rfl rfl ?aP (fun _ hk => hk.elim) ?aF ?aO (Below.refl _ _) ?aS ?aL ?_; (case aP => exact k85_mkM _ _ _ (⟨t550, t551, t552⟩ : S85)); (case aF => exact (fun _ _ => trivial)); (case aO => exact (ru HO_7.out)); (case aS => exact (keep_size (w := w) (g := g) (row := none) z86_1)); (case aL => have := LMc10.out; omega); intro v555 w12 ho hb hg hat; rw [← Ny554.out] at ho; have n0_ := am_ (IsS116.grown z86_2 hg (IsS116.own_ne HI0.out HO_7.out (by decide))); have n1_ := am_ (below_weaken z86_3 HL.out hb); have n2_ := am_ (KeepBut.trans z86_1 (KeepBut.of_grown hg g) (Kd.R_base2 HO_7.out)); have n3_ := am_ (ho); clear HI0 HB HK HO_7; have HI0 := n0_; have HB := n1_; have HK := n2_; have HO556 := n3_; clear n0_ n1_ n2_ n3_; clear ho hb hg hat))
     go_roundg k1
     case measure => have := HK1.out; omega
     case rel => exact ⟨(y554), (wrap64 (x8_1 - 1)), (t553), (by first | rfl | (simp; done) | (simp [*]; done)), H', ⟨by have := HK1.out; omega⟩, ⟨ru HO556.out⟩, ⟨z86_2⟩, ⟨z86_1⟩, ⟨z86_3⟩⟩
    rw [if_neg c10] at H
    exact absurd H (by simp)
   rw [if_neg c8] at H
   have c8b0 : decide (0 < x8_1) = false := decide_eq_false c8
   clear c8
   simp only [Option.some.injEq, Prod.mk.injEq] at H
   obtain ⟨rfl, rfl⟩ := H
   go_wp2
   go_ret
   exact ⟨_, by first | rfl | (simp [errW_none, errW_some] <;> rfl) | (simp [*, errW_none, errW_some] <;> rfl), ru HO_7.out, z86_2, z86_3, z86_1⟩

end Go.Proofs.Ytefkbmhkhpekjaa.PB

namespace Go.Proofs.Ytefkbmhkhpekjaa.PB
open Go.RowKit Go.Proofs.YtefkbmhkhpekjaaW.PrintWords Go.Proofs.YtefkbmhkhpekjaaW.PrintLast Go.Proofs.YtefkbmhkhpekjaaW.PrintMore
attribute [local go_sem] max2_int min2_int max_two min_two max_three min_three max_four min_four   -- for this text's walks alone
open Go.Proofs.YtefkbmhkhpekjaaMine
set_option linter.unusedVariables false
set_option linter.unusedSimpArgs false

theorem z134_1 {p : Prop} (h : p := by first | (with_reducible assumption) | assumption) : p := h
theorem z134_2 {p : Prop} (h : p := by first | rfl | (simp [errW_none, errW_some] <;> rfl) | (simp [*, errW_none, errW_some] <;> rfl)) : p := h
theorem z134_3 {p : Prop} (h : p := by repeat (first | (with_reducible first | exact HK.out | apply KeepBut.set_ | apply keep_drewN | apply keep_drew | apply keep_alloc) | exact HK.out)) : p := h
theorem z134_4 {p : Prop} (h : p := by repeat (first | (with_reducible first | exact HI0.out | apply IsS116.alloc | apply IsS116.drewN | apply IsS116.drew | apply IsS116.set_1) | exact HI0.out)) : p := h
theorem z134_5 {p : Prop} (h : p := by repeat (first | (with_reducible first | exact HB.out | apply below_alloc | apply pw_below_drewN | apply below_drew1 | refine below_set ?_ (IsS116.ge HI0.out)) | exact HB.out)) : p := h
/-! ### spec_l71Reader: function 134 -/
def spec_l71Reader.f (k : Nat) (s0_0 : List Int) (s0_1 : Int) (a1 : Int) : Option ((List (S85)) × Int) := (spec_l6Rd_pick.f k s0_0 s0_1 a1).bind fun bt649 => ((spec_l6Rd_pick.f k s0_0 bt649.2 a1).bind fun bt651 => ((some (([(⟨7, 0, 0⟩ : S85), (⟨2, bt649.1, 0⟩ : S85), (⟨2, bt651.1, 0⟩ : S85), (⟨8, 0, 0⟩ : S85)] : List (S85)) : List (S85))).bind fun y653 => ((spec_l6Rd_pick.f k s0_0 bt651.2 3).bind fun bt656 => (if bt656.1 = 0 then ((spec_l71Do.f k s0_0 bt656.2 a1).bind fun bt658 => (if 2 < (y653.length : Int) then (some ((y653.set (2 : Int).toNat (⟨bt658.1, bt658.2.1, bt658.2.2.1⟩ : S85)), bt658.2.2.2)) else (none))) else (some (y653, bt656.2))))))
set_option maxHeartbeats 8000000 in
set_option maxRecDepth 100000 in
theorem spec_l71Reader.calls (k : Nat) (g : Nat) (s0_0 : List Int) (s0_1 : Int) (a1 : Int) (r1 : List (S85)) (r2 : Int) (w0 w : World) (hI : IsS116 w0 w g s0_0 s0_1) (hB : Below w0.heap.size w0 w) (h : spec_l71Reader.f k s0_0 s0_1 a1 = some (r1, r2)) :
  Calls Try.prog 134 #[.pointer (some ⟨g, 0, none⟩), .int .i64 a1] w fun e w' => ∃ v0_ : Value, e = .returned (v0_) ∧ Kd.R k85 85 w' w.heap.size (fun _ => True) v0_ r1 ∧ IsS116 w0 w' g s0_0 r2 ∧ Below w0.heap.size w0 w' ∧ KeepBut w w' g none := by
 have hu85 := Try.underlying85
 have HI0 := am_ hI
 have HK := am_ (KeepBut.refl w g none)
 have HL := am_ hB.size
 clear hI
 have HW0 := am_ hB.size
 have HB := am_ hB
 clear hB
 have H : ((spec_l6Rd_pick.f k s0_0 s0_1 a1).bind fun bt649 => ((spec_l6Rd_pick.f k s0_0 bt649.2 a1).bind fun bt651 => ((some (([(⟨7, 0, 0⟩ : S85), (⟨2, bt649.1, 0⟩ : S85), (⟨2, bt651.1, 0⟩ : S85), (⟨8, 0, 0⟩ : S85)] : List (S85)) : List (S85))).bind fun y653 => ((spec_l6Rd_pick.f k s0_0 bt651.2 3).bind fun bt656 => (if bt656.1 = 0 then ((spec_l71Do.f k s0_0 bt656.2 a1).bind fun bt658 => (if 2 < (y653.length : Int) then (some ((y653.set (2 : Int).toNat (⟨bt658.1, bt658.2.1, bt658.2.2.1⟩ : S85)), bt658.2.2.2)) else (none))) else (some (y653, bt656.2))))))) = some (r1, r2) := h
 clear h
 replace H := Option.bind_eq_some_iff.mp H
 obtain ⟨⟨t649, t650⟩, A30, H⟩ := H
 replace H : ((spec_l6Rd_pick.f k s0_0 t650 a1).bind fun bt651 => ((some (([(⟨7, 0, 0⟩ : S85), (⟨2, t649, 0⟩ : S85), (⟨2, bt651.1, 0⟩ : S85), (⟨8, 0, 0⟩ : S85)] : List (S85)) : List (S85))).bind fun y653 => ((spec_l6Rd_pick.f k s0_0 bt651.2 3).bind fun bt656 => (if bt656.1 = 0 then ((spec_l71Do.f k s0_0 bt656.2 a1).bind fun bt658 => (if 2 < (y653.length : Int) then (some ((y653.set (2 : Int).toNat (⟨bt658.1, bt658.2.1, bt658.2.2.1⟩ : S85)), bt658.2.2.2)) else (none))) else (some (y653, bt656.2)))))) = some (r1, r2) := H
 have A3 := am_ A30
 clear A30
 replace H := Option.bind_eq_some_iff.mp H
 obtain ⟨⟨t651, t652⟩, A40, H⟩ := H
 replace H : ((some (([(⟨7, 0, 0⟩ : S85), (⟨2, t649, 0⟩ : S85), (⟨2, t651, 0⟩ : S85), (⟨8, 0, 0⟩ : S85)] : List (S85)) : List (S85))).bind fun y653 => ((spec_l6Rd_pick.f k s0_0 t652 3).bind fun bt656 => (if bt656.1 = 0 then ((spec_l71Do.f k s0_0 bt656.2 a1).bind fun bt658 => (if 2 < (y653.length : Int) then (some ((y653.set (2 : Int).toNat (⟨bt658.1, bt658.2.1, bt658.2.2.1⟩ : S85)), bt658.2.2.2)) else (none))) else (some (y653, bt656.2))))) = some (r1, r2) := H
 have A4 := am_ A40
 clear A40
 obtain ⟨y653, hy653⟩ : ∃ y_ : List (S85), y_ = (([(⟨7, 0, 0⟩ : S85), (⟨2, t649, 0⟩ : S85), (⟨2, t651, 0⟩ : S85), (⟨8, 0, 0⟩ : S85)] : List (S85))) := ⟨_, rfl⟩
 replace H : ((spec_l6Rd_pick.f k s0_0 t652 3).bind fun bt656 => (if bt656.1 = 0 then ((spec_l71Do.f k s0_0 bt656.2 a1).bind fun bt658 => (if 2 < (y653.length : Int) then (some ((y653.set (2 : Int).toNat (⟨bt658.1, bt658.2.1, bt658.2.2.1⟩ : S85)), bt658.2.2.2)) else (none))) else (some (y653, bt656.2)))) = some (r1, r2) := by first | (rw [hy653]; with_reducible exact H) | (have H2_ := (Option.bind_some _ _).symm.trans H; rw [hy653]; with_reducible exact H2_) | (have H2_ := (Option.bind_some _ _).symm.trans H; with_reducible exact H2_) | with_reducible exact H | (rw [hy653]; exact H) | exact H
 have Ny653 := am_ hy653
 clear hy653
 replace H := Option.bind_eq_some_iff.mp H
 obtain ⟨⟨t656, t657⟩, A50, H⟩ := H
 replace H : (if t656 = 0 then ((spec_l71Do.f k s0_0 t657 a1).bind fun bt658 => (if 2 < (y653.length : Int) then (some ((y653.set (2 : Int).toNat (⟨bt658.1, bt658.2.1, bt658.2.2.1⟩ : S85)), bt658.2.2.2)) else (none))) else (some (y653, t657))) = some (r1, r2) := H
 have A5 := am_ A50
 clear A50
 by_cases c6 : t656 = 0
 ·rw [if_pos c6] at H
  have c6b0 : (t656 == 0) = true := beq_iff_eq.mpr c6
  have c6b1 : (t656 != 0) = false := bne_eq_false_iff_eq.mpr c6
  clear c6
  replace H := Option.bind_eq_some_iff.mp H
  obtain ⟨⟨t658, t659, t660, t661⟩, A70, H⟩ := H
  replace H : (if 2 < (y653.length : Int) then (some ((y653.set (2 : Int).toNat (⟨t658, t659, t660⟩ : S85)), t661)) else (none)) = some (r1, r2) := H
  have A7 := am_ A70
  clear A70
  by_cases c8 : 2 < (y653.length : Int)
  ·rw [if_pos c8] at H
   have c8b0 : decide (2 < (y653.length : Int)) = true := decide_eq_true c8
   have c8b1 : decide (2 < y653.length) = true := decide_eq_true (by omega)
   clear c8
   obtain ⟨y662, hy662⟩ : ∃ y_ : List (S85), y_ = (y653.set (2 : Int).toNat (⟨t658, t659, t660⟩ : S85)) := ⟨_, rfl⟩
   replace H : (some (y662, t661)) = some (r1, r2) := by first | (rw [hy662]; with_reducible exact H) | (have H2_ := (Option.bind_some _ _).symm.trans H; rw [hy662]; with_reducible exact H2_) | (have H2_ := (Option.bind_some _ _).symm.trans H; with_reducible exact H2_) | with_reducible exact H | (rw [hy662]; exact H) | exact H
   have Ny662 := am_ hy662
   clear hy662
   simp only [Option.some.injEq, Prod.mk.injEq] at H
   obtain ⟨rfl, rfl⟩ := H
   go_enter Try.func134, Try.ntmps134
   go_wp2_with (first | ((with_reducible refine gate_callee (f := 71) rfl ?_); refine goesL_ (some 9) rfl rfl Try.func71 (by kernel_rfl) rfl #[.pointer (some ⟨g, 0, none⟩), .int .i64 a1] rfl (by (try simp only [List.map_toArray, List.map_cons, List.map_nil]); first | done | rfl | (simp only [List.length_drop, List.length_take]; rfl)) ?_; (with_reducible refine (spec_l6Rd_pick.calls k g s0_0 s0_1 a1 t649 t650 w0 _ ?side1 ?side2 A3.out).mono ?_); (case side1 => repeat (first | (with_reducible first | exact HI0.out | apply IsS116.alloc | apply IsS116.drewN | apply IsS116.drew | apply IsS116.set_1) | exact HI0.out)); (case side2 => repeat (first | (with_reducible first | exact HB.out | apply below_alloc | apply pw_below_drewN | apply below_drew1 | refine below_set ?_ (IsS116.ge HI0.out)) | exact HB.out)); rintro e w10 ⟨rfl, hi, hb, hk⟩; refine ⟨_, rfl, ?_⟩; replace HK := am_ (KeepBut.trans z134_3 hk (.inl rfl)); replace HB := am_ (hb); replace HI0 := am_ (hi); (try clear hb); (try clear hb2); (try clear hk); (try clear hi)) | ((with_reducible refine gate_callee (f := 71) rfl ?_); refine goesL_ (some 13) rfl rfl Try.func71 (by kernel_rfl) rfl #[.pointer (some ⟨g, 0, none⟩), .int .i64 a1] rfl (by (try simp only [List.map_toArray, List.map_cons, List.map_nil]); first | done | rfl | (simp only [List.length_drop, List.length_take]; rfl)) ?_; (with_reducible refine (spec_l6Rd_pick.calls k g s0_0 t650 a1 t651 t652 w0 _ ?side1 ?side2 A4.out).mono ?_); (case side1 => repeat (first | (with_reducible first | exact HI0.out | apply IsS116.alloc | apply IsS116.drewN | apply IsS116.drew | apply IsS116.set_1) | exact HI0.out)); (case side2 => repeat (first | (with_reducible first | exact HB.out | apply below_alloc | apply pw_below_drewN | apply below_drew1 | refine below_set ?_ (IsS116.ge HI0.out)) | exact HB.out)); rintro e w11 ⟨rfl, hi, hb, hk⟩; refine ⟨_, rfl, ?_⟩; replace HK := am_ (KeepBut.trans z134_3 hk (.inl rfl)); replace HB := am_ (hb); replace HI0 := am_ (hi); (try clear hb); (try clear hb2); (try clear hk); (try clear hi)) | ((with_reducible refine gate_dst (N := 16) rfl ?_); refine Kd.R_lit k85 _ 85 ?hg (N := 16) ?hd (xs := ([(⟨7, 0, 0⟩ : S85), (⟨2, t649, 0⟩ : S85), (⟨2, t651, 0⟩ : S85), (⟨8, 0, 0⟩ : S85)] : List (S85))) (inner := [.int .i64 7, .int .i64 0, .int .i64 0, .int .i64 2, .int .i64 t649, .int .i64 0, .int .i64 2, .int .i64 t651, .int .i64 0, .int .i64 8, .int .i64 0, .int .i64 0]) (ok := fun _ => True) (okp := fun _ => True) ?hr ?hp (fun _ hk => hk) trivial (Below.refl _ _) (Nat.le_refl _) (by simp) ?_; (case hd => rfl); (case hg => rfl); (case hr => first | (go_simp; done) | (go_simp; rfl)); (case hp => exact (Reps.c3 (show Kd.M k85 _ _ _ (⟨7, 0, 0⟩ : S85) [.int .i64 7, .int .i64 0, .int .i64 0] from (k85_mkM _ _ _ (⟨7, 0, 0⟩ : S85) )) (Reps.c3 (show Kd.M k85 _ _ _ (⟨2, t649, 0⟩ : S85) [.int .i64 2, .int .i64 t649, .int .i64 0] from (k85_mkM _ _ _ (⟨2, t649, 0⟩ : S85) )) (Reps.c3 (show Kd.M k85 _ _ _ (⟨2, t651, 0⟩ : S85) [.int .i64 2, .int .i64 t651, .int .i64 0] from (k85_mkM _ _ _ (⟨2, t651, 0⟩ : S85) )) (Reps.c3 (show Kd.M k85 _ _ _ (⟨8, 0, 0⟩ : S85) [.int .i64 8, .int .i64 0, .int .i64 0] from (k85_mkM _ _ _ (⟨8, 0, 0⟩ : S85) )) (Reps.none _ _)))))); intro v654 w12 ho13 hb hg_ hnew_; clear hg_ hnew_; (first | rw [← Ny653.out] at ho13 | (simp only [Int.reduceToNat] at ho13; rw [← Ny653.out] at ho13)); have n0_ := am_ (Kd.R_lower ho13 (keep_size (w := w) (g := g) (row := none) z134_3)); have n1_ := am_ (IsS116.below z134_4 hb); have n2_ := am_ (KeepBut.trans z134_3 (KeepBut.of_below hb g none) (.inl rfl)); have n3_ := am_ (below_step z134_5 hb); clear HI0 HK HB; have HO655 := n0_; have HI0 := n1_; have HK := n2_; have HB := n3_; clear n0_ n1_ n2_ n3_; clear hb ho13) | ((with_reducible refine gate_callee (f := 71) rfl ?_); refine goesL_ (some 18) rfl rfl Try.func71 (by kernel_rfl) rfl #[.pointer (some ⟨g, 0, none⟩), .int .i64 3] rfl (by (try simp only [List.map_toArray, List.map_cons, List.map_nil]); first | done | rfl | (simp only [List.length_drop, List.length_take]; rfl)) ?_; (with_reducible refine (spec_l6Rd_pick.calls k g s0_0 t652 3 t656 t657 w0 _ ?side1 ?side2 A5.out).mono ?_); (case side1 => repeat (first | (with_reducible first | exact HI0.out | apply IsS116.alloc | apply IsS116.drewN | apply IsS116.drew | apply IsS116.set_1) | exact HI0.out)); (case side2 => repeat (first | (with_reducible first | exact HB.out | apply below_alloc | apply pw_below_drewN | apply below_drew1 | refine below_set ?_ (IsS116.ge HI0.out)) | exact HB.out)); rintro e w14 ⟨rfl, hi, hb, hk⟩; refine ⟨_, rfl, ?_⟩; replace HO655 := am_ (Kd.R_mono (Kd.R_keep (IsS116.apart (show IsS116 w0 _ g s0_0 t652 from by repeat (first | (with_reducible first | exact HI0.out | apply IsS116.alloc | apply IsS116.drewN | apply IsS116.drew | apply IsS116.set_1) | exact HI0.out)) (ru HO655.out) (by decide)) hk (fun _ h => h.2)) (fun _ h => h.1)); replace HK := am_ (KeepBut.trans z134_3 hk (.inl rfl)); replace HB := am_ (hb); replace HI0 := am_ (hi); (try clear hb); (try clear hb2); (try clear hk); (try clear hi)) | ((with_reducible refine gate_callee (f := 121) rfl ?_); refine goesL_ (some 23) rfl rfl Try.func121 (by kernel_rfl) rfl #[.pointer (some ⟨g, 0, none⟩), .int .i64 a1] rfl (by (try simp only [List.map_toArray, List.map_cons, List.map_nil]); first | done | rfl | (simp only [List.length_drop, List.length_take]; rfl)) ?_; (with_reducible refine (spec_l71Do.calls k g s0_0 t657 a1 t658 t659 t660 t661 w0 _ ?side1 ?side2 A7.out).mono ?_); (case side1 => repeat (first | (with_reducible first | exact HI0.out | apply IsS116.alloc | apply IsS116.drewN | apply IsS116.drew | apply IsS116.set_1) | exact HI0.out)); (case side2 => repeat (first | (with_reducible first | exact HB.out | apply below_alloc | apply pw_below_drewN | apply below_drew1 | refine below_set ?_ (IsS116.ge HI0.out)) | exact HB.out)); rintro e w15 ⟨rfl, hi, hb, hk⟩; refine ⟨_, rfl, ?_⟩; replace HO655 := am_ (Kd.R_mono (Kd.R_keep (IsS116.apart (show IsS116 w0 _ g s0_0 t657 from by repeat (first | (with_reducible first | exact HI0.out | apply IsS116.alloc | apply IsS116.drewN | apply IsS116.drew | apply IsS116.set_1) | exact HI0.out)) (ru HO655.out) (by decide)) hk (fun _ h => h.2)) (fun _ h => h.1)); replace HK := am_ (KeepBut.trans z134_3 hk (.inl rfl)); replace HB := am_ (hb); replace HI0 := am_ (hi); (try clear hb); (try clear hb2); (try clear hk); (try clear hi); have p9 : 0 ≤ (2 : Int) := (by omega); have q9 : (2 : Int) < ((y653.length : Int) : Int) := of_decide_eq_true z134_1; have qi9 : (2 < y653.length) = True := eq_true (by omega); obtain ⟨go9, co9, eo9, gb9, gl9, cl9, HG9⟩ := Kd.R_form HO655.out (by omega); (first | cases eo9 | (injection eo9 with ea_ en_ ec_; (first | subst ea_ | (injection ea_ with ea_; subst ea_)); subst ec_; clear en_)); have GB9 := am_ gb9; have GG9 := am_ HG9; clear gb9 gl9 HG9; obtain ⟨ce9, hcl9, hM9, hcc9, hfr9⟩ := Kd.R_elem HO655.out z85 (2 : Int) p9 q9; obtain rfl := k85_openM hM9; have hx9_0 : w15.cell? ⟨go9, (2 : Int).toNat * 3, none⟩ = some (.int .i64 ((rd_T85 y653 2).f0)) := hcc9 0 _ rfl; have hx9_1 : w15.cell? ⟨go9, (2 : Int).toNat * 3 + 1, none⟩ = some (.int .i64 ((rd_T85 y653 2).f1)) := hcc9 1 _ rfl; have hx9_2 : w15.cell? ⟨go9, (2 : Int).toNat * 3 + 2, none⟩ = some (.int .i64 ((rd_T85 y653 2).f2)) := hcc9 2 _ rfl; have hf9_0 : w15.frozen? ⟨go9, (2 : Int).toNat * 3, none⟩ = false := hfr9 0; have hf9_1 : w15.frozen? ⟨go9, (2 : Int).toNat * 3 + 1, none⟩ = false := hfr9 1; have hf9_2 : w15.frozen? ⟨go9, (2 : Int).toNat * 3 + 2, none⟩ = false := hfr9 2; clear hcl9 hcc9 hfr9 hM9; (try rw [show ((2 : Int)).toNat = 2 from rfl] at hx9_0); (try simp only [Nat.reduceMul, Nat.zero_mul, Nat.zero_add, Nat.reduceAdd] at hx9_0); (try rw [show ((2 : Int)).toNat = 2 from rfl] at hf9_0); (try simp only [Nat.reduceMul, Nat.zero_mul, Nat.zero_add, Nat.reduceAdd] at hf9_0); (try rw [show ((2 : Int)).toNat = 2 from rfl] at hx9_1); (try simp only [Nat.reduceMul, Nat.zero_mul, Nat.zero_add, Nat.reduceAdd] at hx9_1); (try rw [show ((2 : Int)).toNat = 2 from rfl] at hf9_1); (try simp only [Nat.reduceMul, Nat.zero_mul, Nat.zero_add, Nat.reduceAdd] at hf9_1); (try rw [show ((2 : Int)).toNat = 2 from rfl] at hx9_2); (try simp only [Nat.reduceMul, Nat.zero_mul, Nat.zero_add, Nat.reduceAdd] at hx9_2); (try rw [show ((2 : Int)).toNat = 2 from rfl] at hf9_2); (try simp only [Nat.reduceMul, Nat.zero_mul, Nat.zero_add, Nat.reduceAdd] at hf9_2); replace p9 := eq_true p9; replace q9 := eq_true q9; have HX16 := am_ (show Kd.R k85 85 w15 w.heap.size (fun _ => True) (.slice (some ⟨go9, 0, none⟩) y653.length co9) y653 from (ru HO655.out)); obtain ⟨ce16, hcl16, hM16, hcc16, hfr16⟩ := Kd.R_elem HX16.out z85 (2 : Int) (by omega) (by have h_ : (2 : Int) < ((y653.length : Int) : Int) := of_decide_eq_true z134_1; first | exact h_ | (have e_ := (Kd.R_reads' HO655.out).1; omega) | simpa using h_); obtain rfl := k85_openM hM16; have HP16 := Kd.R_seg HX16.out (2 : Int) (by omega) (by have h_ : (2 : Int) < ((y653.length : Int) : Int) := of_decide_eq_true z134_1; first | exact h_ | (have e_ := (Kd.R_reads' HO655.out).1; omega) | simpa using h_) (seg := [.int .i64 t658, .int .i64 t659, .int .i64 t660]) (j := 0) hcl16 hcc16 (show 3 ≤ 3 from by decide) (x' := (⟨t658, t659, t660⟩ : S85)) (k85_mkM _ _ _ (⟨t658, t659, t660⟩ : S85) ) (fun _ hk => hk); have hx16_0 := hcc16 0 _ rfl; (try simp only [show (k85).sz = 3 from rfl, Nat.mul_one, Nat.add_zero] at hx16_0); (try rw [show ((2 : Int)).toNat = 2 from rfl] at hx16_0); (try simp only [Nat.reduceMul, Nat.zero_mul, Nat.zero_add, Nat.reduceAdd] at hx16_0); have hf16_0 := hfr16 0; (try simp only [show (k85).sz = 3 from rfl, Nat.mul_one, Nat.add_zero] at hf16_0); (try rw [show ((2 : Int)).toNat = 2 from rfl] at hf16_0); (try simp only [Nat.reduceMul, Nat.zero_mul, Nat.zero_add, Nat.reduceAdd] at hf16_0); have hx16_1 := hcc16 1 _ rfl; (try simp only [show (k85).sz = 3 from rfl, Nat.mul_one, Nat.add_zero] at hx16_1); (try rw [show ((2 : Int)).toNat = 2 from rfl] at hx16_1); (try simp only [Nat.reduceMul, Nat.zero_mul, Nat.zero_add, Nat.reduceAdd] at hx16_1); have hf16_1 := hfr16 1; (try simp only [show (k85).sz = 3 from rfl, Nat.mul_one, Nat.add_zero] at hf16_1); (try rw [show ((2 : Int)).toNat = 2 from rfl] at hf16_1); (try simp only [Nat.reduceMul, Nat.zero_mul, Nat.zero_add, Nat.reduceAdd] at hf16_1); have hx16_2 := hcc16 2 _ rfl; (try simp only [show (k85).sz = 3 from rfl, Nat.mul_one, Nat.add_zero] at hx16_2); (try rw [show ((2 : Int)).toNat = 2 from rfl] at hx16_2); (try simp only [Nat.reduceMul, Nat.zero_mul, Nat.zero_add, Nat.reduceAdd] at hx16_2); have hf16_2 := hfr16 2; (try simp only [show (k85).sz = 3 from rfl, Nat.mul_one, Nat.add_zero] at hf16_2); (try rw [show ((2 : Int)).toNat = 2 from rfl] at hf16_2); (try simp only [Nat.reduceMul, Nat.zero_mul, Nat.zero_add, Nat.reduceAdd] at hf16_2); clear hcl16 hcc16 hfr16 hM16) | ((with_reducible refine gate_store (t := 85) (p := 24) rfl ?_); refine store_event (t := 85) (p := 24) (v := ?vo_w17) (w1 := (((w15.setCell ⟨go9, 6, none⟩ (.int .i64 t658)).setCell ⟨go9, 7, none⟩ (.int .i64 t659)).setCell ⟨go9, 8, none⟩ (.int .i64 t660))) ?hg ?ho ?hn ?hr ?_; (case ho => rfl); (case hg => rfl); (case hn => rfl); (case hr => first | (go_simp; done) | (go_simp; rfl)); intro w17 hw; have hg : w15.grownBy w17 (some go9) := (by rw [hw]; exact HP16.2); have hp_ : Kd.R k85 85 w17 w.heap.size (fun _ => True) (.slice (some ⟨go9, 0, none⟩) y653.length co9) y662 := (by rw [hw, Ny662.out]; exact HP16.1); clear HP16; have n0_ := am_ (IsS116.grown z134_4 hg (IsS116.own_ne HI0.out HO655.out (by decide))); have n1_ := am_ (hp_); have n2_ := am_ (by rw [hw]; exact below_set (below_set (below_set (HB.out) (Nat.le_trans HL.out GB9.out)) (Nat.le_trans HL.out GB9.out)) (Nat.le_trans HL.out GB9.out) : Below w0.heap.size w0 w17); have n3_ := am_ (KeepBut.trans z134_3 (KeepBut.of_grown hg g) (Kd.R_base2 HO655.out)); clear HI0 HO655 HB HK; have HI0 := n0_; have HO655 := n1_; have HB := n2_; have HK := n3_; clear n0_ n1_ n2_ n3_; clear hg hw hp_))
   go_ret
   exact ⟨_, z134_2, ru HO655.out, z134_4, z134_5, z134_3⟩
  rw [if_neg c8] at H
  exact absurd H (by simp)
 rw [if_neg c6] at H
 have c6b0 : (t656 == 0) = false := beq_eq_false_iff_ne.mpr c6
 have c6b1 : (t656 != 0) = true := bne_iff_ne.mpr c6
 simp only [Option.some.injEq, Prod.mk.injEq] at H
 obtain ⟨rfl, rfl⟩ := H
 go_enter Try.func134, Try.ntmps134
 go_wp2_with (first | ((with_reducible refine gate_callee (f := 71) rfl ?_); refine goesL_ (some 9) rfl rfl Try.func71 (by kernel_rfl) rfl #[.pointer (some ⟨g, 0, none⟩), .int .i64 a1] rfl (by (try simp only [List.map_toArray, List.map_cons, List.map_nil]); first | done | rfl | (simp only [List.length_drop, List.length_take]; rfl)) ?_; (with_reducible refine (spec_l6Rd_pick.calls k g s0_0 s0_1 a1 t649 t650 w0 _ ?side1 ?side2 A3.out).mono ?_); (case side1 => repeat (first | (with_reducible first | exact HI0.out | apply IsS116.alloc | apply IsS116.drewN | apply IsS116.drew | apply IsS116.set_1) | exact HI0.out)); (case side2 => repeat (first | (with_reducible first | exact HB.out | apply below_alloc | apply pw_below_drewN | apply below_drew1 | refine below_set ?_ (IsS116.ge HI0.out)) | exact HB.out)); rintro e w18 ⟨rfl, hi, hb, hk⟩; refine ⟨_, rfl, ?_⟩; replace HK := am_ (KeepBut.trans z134_3 hk (.inl rfl)); replace HB := am_ (hb); replace HI0 := am_ (hi); (try clear hb); (try clear hb2); (try clear hk); (try clear hi)) | ((with_reducible refine gate_callee (f := 71) rfl ?_); refine goesL_ (some 13) rfl rfl Try.func71 (by kernel_rfl) rfl #[.pointer (some ⟨g, 0, none⟩), .int .i64 a1] rfl (by (try simp only [List.map_toArray, List.map_cons, List.map_nil]); first | done | rfl | (simp only [List.length_drop, List.length_take]; rfl)) ?_; (with_reducible refine (spec_l6Rd_pick.calls k g s0_0 t650 a1 t651 t652 w0 _ ?side1 ?side2 A4.out).mono ?_); (case side1 => repeat (first | (with_reducible first | exact HI0.out | apply IsS116.alloc | apply IsS116.drewN | apply IsS116.drew | apply IsS116.set_1) | exact HI0.out)); (case side2 => repeat (first | (with_reducible first | exact HB.out | apply below_alloc | apply pw_below_drewN | apply below_drew1 | refine below_set ?_ (IsS116.ge HI0.out)) | exact HB.out)); rintro e w19 ⟨rfl, hi, hb, hk⟩; refine ⟨_, rfl, ?_⟩; replace HK := am_ (KeepBut.trans z134_3 hk (.inl rfl)); replace HB := am_ (hb); replace HI0 := am_ (hi); (try clear hb); (try clear hb2); (try clear hk); (try clear hi)) | ((with_reducible refine gate_dst (N := 16) rfl ?_); refine Kd.R_lit k85 _ 85 ?hg (N := 16) ?hd (xs := ([(⟨7, 0, 0⟩ : S85), (⟨2, t649, 0⟩ : S85), (⟨2, t651, 0⟩ : S85), (⟨8, 0, 0⟩ : S85)] : List (S85))) (inner := [.int .i64 7, .int .i64 0, .int .i64 0, .int .i64 2, .int .i64 t649, .int .i64 0, .int .i64 2, .int .i64 t651, .int .i64 0, .int .i64 8, .int .i64 0, .int .i64 0]) (ok := fun _ => True) (okp := fun _ => True) ?hr ?hp (fun _ hk => hk) trivial (Below.refl _ _) (Nat.le_refl _) (by simp) ?_; (case hd => rfl); (case hg => rfl); (case hr => first | (go_simp; done) | (go_simp; rfl)); (case hp => exact (Reps.c3 (show Kd.M k85 _ _ _ (⟨7, 0, 0⟩ : S85) [.int .i64 7, .int .i64 0, .int .i64 0] from (k85_mkM _ _ _ (⟨7, 0, 0⟩ : S85) )) (Reps.c3 (show Kd.M k85 _ _ _ (⟨2, t649, 0⟩ : S85) [.int .i64 2, .int .i64 t649, .int .i64 0] from (k85_mkM _ _ _ (⟨2, t649, 0⟩ : S85) )) (Reps.c3 (show Kd.M k85 _ _ _ (⟨2, t651, 0⟩ : S85) [.int .i64 2, .int .i64 t651, .int .i64 0] from (k85_mkM _ _ _ (⟨2, t651, 0⟩ : S85) )) (Reps.c3 (show Kd.M k85 _ _ _ (⟨8, 0, 0⟩ : S85) [.int .i64 8, .int .i64 0, .int .i64 0] from (k85_mkM _ _ _ (⟨8, 0, 0⟩ : S85) )) (Reps.none _ _)))))); intro v654 w20 ho21 hb hg_ hnew_; clear hg_ hnew_; (first | rw [← Ny653.out] at ho21 | (simp only [Int.reduceToNat] at ho21; rw [← Ny653.out] at ho21)); have n0_ := am_ (Kd.R_lower ho21 (keep_size (w := w) (g := g) (row := none) z134_3)); have n1_ := am_ (IsS116.below z134_4 hb); have n2_ := am_ (KeepBut.trans z134_3 (KeepBut.of_below hb g none) (.inl rfl)); have n3_ := am_ (below_step z134_5 hb); clear HI0 HK HB; have HO655 := n0_; have HI0 := n1_; have HK := n2_; have HB := n3_; clear n0_ n1_ n2_ n3_; clear hb ho21) | ((with_reducible refine gate_callee (f := 71) rfl ?_); refine goesL_ (some 18) rfl rfl Try.func71 (by kernel_rfl) rfl #[.pointer (some ⟨g, 0, none⟩), .int .i64 3] rfl (by (try simp only [List.map_toArray, List.map_cons, List.map_nil]); first | done | rfl | (simp only [List.length_drop, List.length_take]; rfl)) ?_; (with_reducible refine (spec_l6Rd_pick.calls k g s0_0 t652 3 t656 t657 w0 _ ?side1 ?side2 A5.out).mono ?_); (case side1 => repeat (first | (with_reducible first | exact HI0.out | apply IsS116.alloc | apply IsS116.drewN | apply IsS116.drew | apply IsS116.set_1) | exact HI0.out)); (case side2 => repeat (first | (with_reducible first | exact HB.out | apply below_alloc | apply pw_below_drewN | apply below_drew1 | refine below_set ?_ (IsS116.ge HI0.out)) | exact HB.out)); rintro e w22 ⟨rfl, hi, hb, hk⟩; refine ⟨_, rfl, ?_⟩; replace HO655 := am_ (Kd.R_mono (Kd.R_keep (IsS116.apart (show IsS116 w0 _ g s0_0 t652 from by repeat (first | (with_reducible first | exact HI0.out | apply IsS116.alloc | apply IsS116.drewN | apply IsS116.drew | apply IsS116.set_1) | exact HI0.out)) (ru HO655.out) (by decide)) hk (fun _ h => h.2)) (fun _ h => h.1)); replace HK := am_ (KeepBut.trans z134_3 hk (.inl rfl)); replace HB := am_ (hb); replace HI0 := am_ (hi); (try clear hb); (try clear hb2); (try clear hk); (try clear hi)))
 go_ret
 exact ⟨_, z134_2, ru HO655.out, z134_4, z134_5, z134_3⟩

end Go.Proofs.Ytefkbmhkhpekjaa.PB

namespace Go.Proofs.Ytefkbmhkhpekjaa.PB
open Go.RowKit Go.Proofs.YtefkbmhkhpekjaaW.PrintWords Go.Proofs.YtefkbmhkhpekjaaW.PrintLast Go.Proofs.YtefkbmhkhpekjaaW.PrintMore
attribute [local go_sem] max2_int min2_int max_two min_two max_three min_three max_four min_four   -- for this text's walks alone
open Go.Proofs.YtefkbmhkhpekjaaMine
set_option linter.unusedVariables false
set_option linter.unusedSimpArgs false

theorem z135_1 {p : Prop} (h : p := by first | trivial | exact h_ | exact h_.1) : p := h
theorem z135_2 {p : Prop} (h : p := by repeat (first | (with_reducible first | exact HB.out | apply below_alloc | apply pw_below_drewN | apply below_drew1) | exact HB.out)) : p := h
theorem z135_3 {p : Prop} (h : p := by repeat (first | (with_reducible first | exact HK.out | apply KeepBut.set_ | apply keep_drewN | apply keep_drew | apply keep_alloc) | exact HK.out)) : p := h
theorem z135_4 {p : Prop} (h : p := by repeat (first | (with_reducible first | exact HI0.out | apply IsS116.alloc | apply IsS116.drewN | apply IsS116.drew | apply IsS116.set_1) | exact HI0.out)) : p := h
theorem z135_5 {p : Prop} (h : p := by repeat (first | (with_reducible first | exact HB.out | apply below_alloc | apply pw_below_drewN | apply below_drew1 | refine below_set ?_ (IsS116.ge HI0.out)) | exact HB.out)) : p := h
/-! ### spec_l71Waiter: function 135 -/
def spec_l71Waiter.f (k : Nat) (s0_0 : List Int) (s0_1 : Int) (a1 : Int) : Option ((List (S85)) × Int) := (spec_l6Rd_pick.f k s0_0 s0_1 a1).bind fun bt663 => ((spec_l6Rd_pick.f k s0_0 bt663.2 2).bind fun bt665 => ((some (([1, 6] : List Int) : List Int)).bind fun y667 => ((spec_l6Rd_pick.f k s0_0 bt665.2 2).bind fun bt670 => (if 0 ≤ bt670.1 then (if bt670.1 < (y667.length : Int) then ((spec_l6Rd_pick.f k s0_0 bt670.2 a1).bind fun bt673 => ((spec_l6Rd_pick.f k s0_0 bt673.2 2).bind fun bt675 => (some ((([(⟨1, bt663.1, wrap64 (1 + bt665.1)⟩ : S85), (⟨9, 0, 0⟩ : S85), (⟨rd y667 bt670.1, bt673.1, wrap64 (1 + bt675.1)⟩ : S85)] : List (S85))), bt675.2)))) else (none)) else (none)))))
def spec_l71Waiter.T1 : Bool × List (List Nat × List Nat) := (true, [([], []), ([], []), ([0, 1], [0, 1]), ([], []), ([3, 2], [3]), ([4], [4]), ([2, 5], [2, 5]), ([], []), ([], []), ([], []), ([9, 4], [9]), ([8, 10], [8, 10]), ([11], [11]), ([], []), ([], []), ([13, 14, 10], [13, 14]), ([], []), ([16, 15], [16]), ([17], [17]), ([12, 15, 18], [12, 15, 18]), ([6, 7, 19], [6, 7, 19]), ([20, 17, 0, 1, 2, 3, 4, 5, 6, 7, 8, 9, 10, 11, 12, 13, 14, 15, 16, 17, 18, 19, 20], [20])])
def spec_l71Waiter.B1 : List Nat := [0, 0, 3, 0, 15, 31, 63, 0, 0, 0, 543, 1823, 3871, 0, 0, 26143, 0, 124447, 255519, 524063, 1048575, 2097151]
theorem spec_l71Waiter.tab1 : rtab .any (opsOf Try.f135 1) = spec_l71Waiter.T1 := by kernel_rfl
theorem spec_l71Waiter.bits1 : waitsOk spec_l71Waiter.T1.2 spec_l71Waiter.B1 = true := by kernel_rfl
set_option maxHeartbeats 8000000 in
set_option maxRecDepth 100000 in
theorem spec_l71Waiter.calls (k : Nat) (g : Nat) (s0_0 : List Int) (s0_1 : Int) (a1 : Int) (r1 : List (S85)) (r2 : Int) (w0 w : World) (hI : IsS116 w0 w g s0_0 s0_1) (hB : Below w0.heap.size w0 w) (h : spec_l71Waiter.f k s0_0 s0_1 a1 = some (r1, r2)) :
  Calls Try.prog 135 #[.pointer (some ⟨g, 0, none⟩), .int .i64 a1] w fun e w' => ∃ v0_ : Value, e = .returned (v0_) ∧ Kd.R k85 85 w' w.heap.size (fun _ => True) v0_ r1 ∧ IsS116 w0 w' g s0_0 r2 ∧ Below w0.heap.size w0 w' ∧ KeepBut w w' g none := by
 have hu85 := Try.underlying85
 have HI0 := am_ hI
 have HK := am_ (KeepBut.refl w g none)
 have HL := am_ hB.size
 clear hI
 have HW0 := am_ hB.size
 have HB := am_ hB
 clear hB
 have H : ((spec_l6Rd_pick.f k s0_0 s0_1 a1).bind fun bt663 => ((spec_l6Rd_pick.f k s0_0 bt663.2 2).bind fun bt665 => ((some (([1, 6] : List Int) : List Int)).bind fun y667 => ((spec_l6Rd_pick.f k s0_0 bt665.2 2).bind fun bt670 => (if 0 ≤ bt670.1 then (if bt670.1 < (y667.length : Int) then ((spec_l6Rd_pick.f k s0_0 bt670.2 a1).bind fun bt673 => ((spec_l6Rd_pick.f k s0_0 bt673.2 2).bind fun bt675 => (some ((([(⟨1, bt663.1, wrap64 (1 + bt665.1)⟩ : S85), (⟨9, 0, 0⟩ : S85), (⟨rd y667 bt670.1, bt673.1, wrap64 (1 + bt675.1)⟩ : S85)] : List (S85))), bt675.2)))) else (none)) else (none)))))) = some (r1, r2) := h
 clear h
 replace H := Option.bind_eq_some_iff.mp H
 obtain ⟨⟨t663, t664⟩, A30, H⟩ := H
 replace H : ((spec_l6Rd_pick.f k s0_0 t664 2).bind fun bt665 => ((some (([1, 6] : List Int) : List Int)).bind fun y667 => ((spec_l6Rd_pick.f k s0_0 bt665.2 2).bind fun bt670 => (if 0 ≤ bt670.1 then (if bt670.1 < (y667.length : Int) then ((spec_l6Rd_pick.f k s0_0 bt670.2 a1).bind fun bt673 => ((spec_l6Rd_pick.f k s0_0 bt673.2 2).bind fun bt675 => (some ((([(⟨1, t663, wrap64 (1 + bt665.1)⟩ : S85), (⟨9, 0, 0⟩ : S85), (⟨rd y667 bt670.1, bt673.1, wrap64 (1 + bt675.1)⟩ : S85)] : List (S85))), bt675.2)))) else (none)) else (none))))) = some (r1, r2) := H
 have A3 := am_ A30
 clear A30
 replace H := Option.bind_eq_some_iff.mp H
 obtain ⟨⟨t665, t666⟩, A40, H⟩ := H
 replace H : ((some (([1, 6] : List Int) : List Int)).bind fun y667 => ((spec_l6Rd_pick.f k s0_0 t666 2).bind fun bt670 => (if 0 ≤ bt670.1 then (if bt670.1 < (y667.length : Int) then ((spec_l6Rd_pick.f k s0_0 bt670.2 a1).bind fun bt673 => ((spec_l6Rd_pick.f k s0_0 bt673.2 2).bind fun bt675 => (some ((([(⟨1, t663, wrap64 (1 + t665)⟩ : S85), (⟨9, 0, 0⟩ : S85), (⟨rd y667 bt670.1, bt673.1, wrap64 (1 + bt675.1)⟩ : S85)] : List (S85))), bt675.2)))) else (none)) else (none)))) = some (r1, r2) := H
 have A4 := am_ A40
 clear A40
 obtain ⟨y667, hy667⟩ : ∃ y_ : List Int, y_ = (([1, 6] : List Int)) := ⟨_, rfl⟩
 replace H : ((spec_l6Rd_pick.f k s0_0 t666 2).bind fun bt670 => (if 0 ≤ bt670.1 then (if bt670.1 < (y667.length : Int) then ((spec_l6Rd_pick.f k s0_0 bt670.2 a1).bind fun bt673 => ((spec_l6Rd_pick.f k s0_0 bt673.2 2).bind fun bt675 => (some ((([(⟨1, t663, wrap64 (1 + t665)⟩ : S85), (⟨9, 0, 0⟩ : S85), (⟨rd y667 bt670.1, bt673.1, wrap64 (1 + bt675.1)⟩ : S85)] : List (S85))), bt675.2)))) else (none)) else (none))) = some (r1, r2) := by first | (rw [hy667]; with_reducible exact H) | (have H2_ := (Option.bind_some _ _).symm.trans H; rw [hy667]; with_reducible exact H2_) | (have H2_ := (Option.bind_some _ _).symm.trans H; with_reducible exact H2_) | with_reducible exact H | (rw [hy667]; exact H) | exact H
 have Ny667 := am_ hy667
 clear hy667
 replace H := Option.bind_eq_some_iff.mp H
 obtain ⟨⟨t670, t671⟩, A50, H⟩ := H
 replace H : (if 0 ≤ t670 then (if t670 < (y667.length : Int) then ((spec_l6Rd_pick.f k s0_0 t671 a1).bind fun bt673 => ((spec_l6Rd_pick.f k s0_0 bt673.2 2).bind fun bt675 => (some ((([(⟨1, t663, wrap64 (1 + t665)⟩ : S85), (⟨9, 0, 0⟩ : S85), (⟨rd y667 t670, bt673.1, wrap64 (1 + bt675.1)⟩ : S85)] : List (S85))), bt675.2)))) else (none)) else (none)) = some (r1, r2) := H
 have A5 := am_ A50
 clear A50
 by_cases c6 : 0 ≤ t670
 ·rw [if_pos c6] at H
  have c6b0 : decide (0 ≤ t670) = true := decide_eq_true c6
  clear c6
  by_cases c7 : t670 < (y667.length : Int)
  ·rw [if_pos c7] at H
   have c7b0 : decide (t670 < (y667.length : Int)) = true := decide_eq_true c7
   clear c7
   replace H := Option.bind_eq_some_iff.mp H
   obtain ⟨⟨t673, t674⟩, A80, H⟩ := H
   replace H : ((spec_l6Rd_pick.f k s0_0 t674 2).bind fun bt675 => (some ((([(⟨1, t663, wrap64 (1 + t665)⟩ : S85), (⟨9, 0, 0⟩ : S85), (⟨rd y667 t670, t673, wrap64 (1 + bt675.1)⟩ : S85)] : List (S85))), bt675.2))) = some (r1, r2) := H
   have A8 := am_ A80
   clear A80
   replace H := Option.bind_eq_some_iff.mp H
   obtain ⟨⟨t675, t676⟩, A90, H⟩ := H
   replace H : (some ((([(⟨1, t663, wrap64 (1 + t665)⟩ : S85), (⟨9, 0, 0⟩ : S85), (⟨rd y667 t670, t673, wrap64 (1 + t675)⟩ : S85)] : List (S85))), t676)) = some (r1, r2) := H
   have A9 := am_ A90
   clear A90
   obtain ⟨y677, hy677⟩ : ∃ y_ : List (S85), y_ = (([(⟨1, t663, wrap64 (1 + t665)⟩ : S85), (⟨9, 0, 0⟩ : S85), (⟨rd y667 t670, t673, wrap64 (1 + t675)⟩ : S85)] : List (S85))) := ⟨_, rfl⟩
   replace H : (some (y677, t676)) = some (r1, r2) := by first | (rw [hy677]; with_reducible exact H) | (have H2_ := (Option.bind_some _ _).symm.trans H; rw [hy677]; with_reducible exact H2_) | (have H2_ := (Option.bind_some _ _).symm.trans H; with_reducible exact H2_) | with_reducible exact H | (rw [hy677]; exact H) | exact H
   have Ny677 := am_ hy677
   clear hy677
   simp only [Option.some.injEq, Prod.mk.injEq] at H
   obtain ⟨rfl, rfl⟩ := H
   go_enter Try.func135, Try.ntmps135
   try go_wp2
   have pi672 : (0 ≤ (t670 : Int)) = True := eq_true (of_decide_eq_true (by first | (with_reducible assumption) | assumption))
   have qi672 : (t670 < (y667.length : Int)) = True := eq_true (of_decide_eq_true (by first | (with_reducible assumption) | assumption))
   replace HI0 := am_ (IsS116.drew HI0.out)
   replace HK := am_ (keep_drew HK.out)
   replace HB := am_ (below_drew1 HB.out)
   refine start_ (n := 22) (S := fun w' => True) (ds := []) #[false, false, false, false, false, false, false, false, false, false, false, false, false, false, false, false, false, false, false, false, false, false] (by kernel_rfl) rfl rfl trivial (fun hHeld => ?_); refine with_tabW spec_l71Waiter.tab1 spec_l71Waiter.bits1 (fun HT_ HW_ => ?_)
   generalize w.drew = w10 at HI0 HK HB hHeld ⊢
   refine pure_ (i := 0) (N := some 5) (v := ?_) (a' := ?_) #[true, false, false, false, false, false, false, false, false, false, false, false, false, false, false, false, false, false, false, false, false, false] rfl rfl (any_of HT_.out (by kernel_rfl)) (fun _ _ _ h => h) (Or.inl ⟨by rfl, ?_⟩) ?_ ?_
   rotate_left
   ·intro w'
    go_simp
    with_reducible rfl
   rotate_left
   ·simp only [Act.put, List.setIfInBounds_toArray, List.set_cons_zero, List.set_cons_succ, i64_w, i32_w]
    rfl
   refine pure_ (i := 1) (N := some 6) (v := ?_) (a' := ?_) #[true, true, false, false, false, false, false, false, false, false, false, false, false, false, false, false, false, false, false, false, false, false] rfl rfl (any_of HT_.out (by kernel_rfl)) (fun _ _ _ h => h) (Or.inl ⟨by rfl, ?_⟩) ?_ ?_
   rotate_left
   ·intro w'
    go_simp
    with_reducible rfl
   rotate_left
   ·simp only [Act.put, List.setIfInBounds_toArray, List.set_cons_zero, List.set_cons_succ, i64_w, i32_w]
    rfl
   refine pure_ (i := 3) (N := some 8) (v := ?_) (a' := ?_) #[true, true, false, true, false, false, false, false, false, false, false, false, false, false, false, false, false, false, false, false, false, false] rfl rfl (any_of HT_.out (by kernel_rfl)) (fun _ _ _ h => h) (Or.inl ⟨by rfl, ?_⟩) ?_ ?_
   rotate_left
   ·intro w'
    go_simp
    with_reducible rfl
   rotate_left
   ·simp only [Act.put, List.setIfInBounds_toArray, List.set_cons_zero, List.set_cons_succ, i64_w, i32_w]
    rfl
   refine pure_ (i := 9) (N := some 14) (v := ?_) (a' := ?_) #[true, true, false, true, false, false, false, false, false, true, false, false, false, false, false, false, false, false, false, false, false, false] rfl rfl (any_of HT_.out (by kernel_rfl)) (fun _ _ _ h => h) (Or.inl ⟨by rfl, ?_⟩) ?_ ?_
   rotate_left
   ·intro w'
    go_simp
    with_reducible rfl
   rotate_left
   ·simp only [Act.put, List.setIfInBounds_toArray, List.set_cons_zero, List.set_cons_succ, i64_w, i32_w]
    rfl
   refine pure_ (i := 13) (N := some 18) (v := ?_) (a' := ?_) #[true, true, false, true, false, false, false, false, false, true, false, false, false, true, false, false, false, false, false, false, false, false] rfl rfl (any_of HT_.out (by kernel_rfl)) (fun _ _ _ h => h) (Or.inl ⟨by rfl, ?_⟩) ?_ ?_
   rotate_left
   ·intro w'
    go_simp
    with_reducible rfl
   rotate_left
   ·simp only [Act.put, List.setIfInBounds_toArray, List.set_cons_zero, List.set_cons_succ, i64_w, i32_w]
    rfl
   refine pure_ (i := 14) (N := some 19) (v := ?_) (a' := ?_) #[true, true, false, true, false, false, false, false, false, true, false, false, false, true, true, false, false, false, false, false, false, false] rfl rfl (any_of HT_.out (by kernel_rfl)) (fun _ _ _ h => h) (Or.inl ⟨by rfl, ?_⟩) ?_ ?_
   rotate_left
   ·intro w'
    go_simp
    with_reducible rfl
   rotate_left
   ·simp only [Act.put, List.setIfInBounds_toArray, List.set_cons_zero, List.set_cons_succ, i64_w, i32_w]
    rfl
   refine pure_ (i := 16) (N := some 21) (v := ?_) (a' := ?_) #[true, true, false, true, false, false, false, false, false, true, false, false, false, true, true, false, true, false, false, false, false, false] rfl rfl (any_of HT_.out (by kernel_rfl)) (fun _ _ _ h => h) (Or.inl ⟨by rfl, ?_⟩) ?_ ?_
   rotate_left
   ·intro w'
    go_simp
    with_reducible rfl
   rotate_left
   ·simp only [Act.put, List.setIfInBounds_toArray, List.set_cons_zero, List.set_cons_succ, i64_w, i32_w]
    rfl
   refine inv_at [2, 4, 5, 6, 7, 8, 10, 11, 12, 15, 17, 18, 19, 20, 21] (fun a0_ b a w' => ∃ (v668 : Value) (adz_v668 : Addr) (v678 : Value) (m11_ : Value) (m21_ : Value), a = putSel a0_ b [(2, 7, .int .i64 t663), (4, 9, .int .i64 t665), (5, 10, .int .i64 (wrap64 (1 + t665))), (6, 11, .agg #[.int .i64 1, .int .i64 t663, .int .i64 (wrap64 (1 + t665))]), (7, 12, .agg #[.int .i64 9, .int .i64 0, .int .i64 0]), (8, 13, v668), (10, 15, .int .i64 t670), (11, 16, m11_), (12, 17, .int .i64 (rd y667 t670)), (15, 20, .int .i64 t673), (17, 22, .int .i64 t675), (18, 23, .int .i64 (wrap64 (1 + t675))), (19, 24, .agg #[.int .i64 (rd y667 t670), .int .i64 t673, .int .i64 (wrap64 (1 + t675))]), (20, 25, v678), (21, 4, m21_)] ∧ (b 2 = false → IsS116 w0 w' g s0_0 s0_1) ∧ (KeepBut w w' g none) ∧ (Below w0.heap.size w0 w') ∧ (b 2 = true → b 4 = false → IsS116 w0 w' g s0_0 t664) ∧ (b 4 = true → b 10 = false → IsS116 w0 w' g s0_0 t666) ∧ (b 8 = true → Kd.R (Kd.int .i64) 3 w' w.heap.size (fun _ => True) v668 y667) ∧ (b 8 = true → ∃ c_, (v668 : Value) = .slice (some adz_v668) y667.length c_) ∧ (b 10 = true → b 15 = false → IsS116 w0 w' g s0_0 t671) ∧ (b 15 = true → b 17 = false → IsS116 w0 w' g s0_0 t674) ∧ (b 17 = true → IsS116 w0 w' g s0_0 t676) ∧ (b 20 = true → Kd.R k85 85 w' w.heap.size (fun _ => True) v678 y677) ∧ (b 11 = true → (m11_ : Value) = .pointer (some (adz_v668.add (t670).toNat))) ∧ (b 21 = true → (m21_ : Value) = v678)) HT_.out HW_.out (by kernel_rfl) (by kernel_rfl) ?_ ?_ ?_
   ·exact ⟨.bool false, ⟨0, 0, none⟩, .bool false, .bool false, .bool false, by simp only [putSel, Bool.false_eq_true, if_false], fun _ => HI0.out, HK.out, HB.out, fun h_ => absurd h_ (by decide), fun h_ => absurd h_ (by decide), fun h_ => absurd h_ (by decide), fun h_ => absurd h_ (by decide), fun h_ => absurd h_ (by decide), fun h_ => absurd h_ (by decide), fun h_ => absurd h_ (by decide), fun h_ => absurd h_ (by decide), fun h_ => absurd h_ (by decide), fun h_ => absurd h_ (by decide)⟩
   ·skip
    clear HB HI0 HK
    refine steps_cons ?_ ?_
    ·rintro b a w' ⟨v668, adz_v668, v678, m11_, m21_, ha, Q_HI0, Q_HK, Q_HB, Q_HI0_e2, Q_HI0_e4, Q_HO669, Q_HA_HO669, Q_HI0_e10, Q_HI0_e15, Q_HI0_e17, Q_HO679, Q_X11_, Q_X21_⟩ hb_ hon hoff
     refine ⟨_, rfl, fun K hK => ?_⟩
     have e5 : a.tmps[5]? = some (.pointer (some ⟨g, 0, none⟩)) := by rw [ha]; exact (putSel_off rfl).trans rfl
     have e6 : a.tmps[6]? = some (.int .i64 a1) := by rw [ha]; exact (putSel_off rfl).trans rfl
     replace ha := am_ ha
     have HI0 := am_ (Q_HI0 hb_)
     have HK := am_ Q_HK
     have HB := am_ Q_HB
     refine goes_ Try.func71 (by kernel_rfl) rfl #[.pointer (some ⟨g, 0, none⟩), .int .i64 a1] (by rfl) rfl rfl (by first | (simp only [List.map_toArray, List.map_cons, List.map_nil, Act.eval, Array.getD_eq_getD_getElem?, Option.getD_some, e5, e6]; done) | (simp only [List.map_toArray, List.map_cons, List.map_nil, Act.eval, Array.getD_eq_getD_getElem?, Option.getD_some, e5, e6]; rfl)) ?_
     with_reducible refine (spec_l6Rd_pick.calls k g s0_0 s0_1 a1 t663 t664 w0 _ ?side1 ?side2 A3.out).mono ?_
     (case side1 => repeat (first | (with_reducible first | exact HI0.out | apply IsS116.alloc | apply IsS116.drewN | apply IsS116.drew | apply IsS116.set_1) | exact HI0.out))
     (case side2 => repeat (first | (with_reducible first | exact HB.out | apply below_alloc | apply pw_below_drewN | apply below_drew1 | refine below_set ?_ (IsS116.ge HI0.out)) | exact HB.out))
     rintro e w11 ⟨rfl, hi, hb, hk⟩
     refine ⟨_, rfl, ?_⟩
     have n0_ := am_ (KeepBut.trans z135_3 hk (.inl rfl))
     have n1_ := am_ (hb)
     have n2_ := am_ (hi)
     have z_HO669 := fun (h0_ : b 8 = true) => (show Kd.R (Kd.int .i64) 3 w11 w.heap.size (fun _ => True) v668 y667 from by first | exact (Kd.R_mono (Kd.R_keep (IsS116.apart (show IsS116 w0 _ g s0_0 s0_1 from by repeat (first | (with_reducible first | exact HI0.out | apply IsS116.alloc | apply IsS116.drewN | apply IsS116.drew | apply IsS116.set_1) | exact HI0.out)) (ru (Q_HO669 h0_)) (by decide)) hk (fun _ h => h.2)) (fun _ h => h.1)) | exact Kd.R_mono (Kd.R_mono (Kd.R_keep (IsS116.apart (show IsS116 w0 _ g s0_0 s0_1 from by repeat (first | (with_reducible first | exact HI0.out | apply IsS116.alloc | apply IsS116.drewN | apply IsS116.drew | apply IsS116.set_1) | exact HI0.out)) (ru (Q_HO669 h0_)) (by decide)) hk (fun _ h => h.2)) (fun _ h => h.1)) (fun _ h_ => z135_1))
     clear HK HB HI0
     have HK := n0_
     have HB := n1_
     have HI0 := n2_
     clear n0_ n1_ n2_
     (try clear hb)
     (try clear hb2)
     (try clear hk)
     (try clear hi)
     refine hK.out _ _ ⟨v668, adz_v668, v678, m11_, m21_, (by rw [ha.out]; exact putSel_upk 0 hb_ rfl rfl rfl), fun h0_ => absurd ((up_self b 2).symm.trans h0_) (by decide), z135_3, z135_5, fun _ _ => z135_4, fun h0_ _ => absurd ((hoff 4 (by kernel_rfl)).symm.trans h0_) (by decide), z_HO669, Q_HA_HO669, fun h0_ _ => absurd ((hoff 10 (by kernel_rfl)).symm.trans h0_) (by decide), fun h0_ _ => absurd ((hoff 15 (by kernel_rfl)).symm.trans h0_) (by decide), fun h0_ => absurd ((hoff 17 (by kernel_rfl)).symm.trans h0_) (by decide), fun h0_ => absurd ((hoff 20 (by kernel_rfl)).symm.trans h0_) (by decide), fun h0_ => absurd ((hoff 11 (by kernel_rfl)).symm.trans h0_) (by decide), fun h0_ => absurd ((hoff 21 (by kernel_rfl)).symm.trans h0_) (by decide)⟩
    refine steps_cons ?_ ?_
    ·rintro b a w' ⟨v668, adz_v668, v678, m11_, m21_, ha, Q_HI0, Q_HK, Q_HB, Q_HI0_e2, Q_HI0_e4, Q_HO669, Q_HA_HO669, Q_HI0_e10, Q_HI0_e15, Q_HI0_e17, Q_HO679, Q_X11_, Q_X21_⟩ hb_ hon hoff
     refine ⟨_, rfl, fun K hK => ?_⟩
     have e8 : a.tmps[8]? = some (.pointer (some ⟨g, 0, none⟩)) := by rw [ha]; exact (putSel_off rfl).trans rfl
     replace ha := am_ ha
     have HK := am_ Q_HK
     have HB := am_ Q_HB
     have HI0 := am_ (Q_HI0_e2 (hon 2 (by kernel_rfl)) hb_)
     refine goes_ Try.func71 (by kernel_rfl) rfl #[.pointer (some ⟨g, 0, none⟩), .int .i64 2] (by rfl) rfl rfl (by first | (simp only [List.map_toArray, List.map_cons, List.map_nil, Act.eval, Array.getD_eq_getD_getElem?, Option.getD_some, e8]; done) | (simp only [List.map_toArray, List.map_cons, List.map_nil, Act.eval, Array.getD_eq_getD_getElem?, Option.getD_some, e8]; rfl)) ?_
     with_reducible refine (spec_l6Rd_pick.calls k g s0_0 t664 2 t665 t666 w0 _ ?side1 ?side2 A4.out).mono ?_
     (case side1 => repeat (first | (with_reducible first | exact HI0.out | apply IsS116.alloc | apply IsS116.drewN | apply IsS116.drew | apply IsS116.set_1) | exact HI0.out))
     (case side2 => repeat (first | (with_reducible first | exact HB.out | apply below_alloc | apply pw_below_drewN | apply below_drew1 | refine below_set ?_ (IsS116.ge HI0.out)) | exact HB.out))
     rintro e w13 ⟨rfl, hi, hb, hk⟩
     refine ⟨_, rfl, ?_⟩
     have n0_ := am_ (KeepBut.trans z135_3 hk (.inl rfl))
     have n1_ := am_ (hb)
     have n2_ := am_ (hi)
     have z_HO669 := fun (h0_ : b 8 = true) => (show Kd.R (Kd.int .i64) 3 w13 w.heap.size (fun _ => True) v668 y667 from by first | exact (Kd.R_mono (Kd.R_keep (IsS116.apart (show IsS116 w0 _ g s0_0 t664 from by repeat (first | (with_reducible first | exact HI0.out | apply IsS116.alloc | apply IsS116.drewN | apply IsS116.drew | apply IsS116.set_1) | exact HI0.out)) (ru (Q_HO669 h0_)) (by decide)) hk (fun _ h => h.2)) (fun _ h => h.1)) | exact Kd.R_mono (Kd.R_mono (Kd.R_keep (IsS116.apart (show IsS116 w0 _ g s0_0 t664 from by repeat (first | (with_reducible first | exact HI0.out | apply IsS116.alloc | apply IsS116.drewN | apply IsS116.drew | apply IsS116.set_1) | exact HI0.out)) (ru (Q_HO669 h0_)) (by decide)) hk (fun _ h => h.2)) (fun _ h => h.1)) (fun _ h_ => z135_1))
     clear HK HB HI0
     have HK := n0_
     have HB := n1_
     have HI0 := n2_
     clear n0_ n1_ n2_
     (try clear hb)
     (try clear hb2)
     (try clear hk)
     (try clear hi)
     refine hK.out _ _ ⟨v668, adz_v668, v678, m11_, m21_, (by rw [ha.out]; exact putSel_upk 1 hb_ rfl rfl rfl), fun h0_ => absurd ((hon 2 (by kernel_rfl)).symm.trans h0_) (by decide), z135_3, z135_5, fun _ h1_ => absurd ((up_self b 4).symm.trans h1_) (by decide), fun _ _ => z135_4, z_HO669, Q_HA_HO669, fun h0_ _ => absurd ((hoff 10 (by kernel_rfl)).symm.trans h0_) (by decide), fun h0_ _ => absurd ((hoff 15 (by kernel_rfl)).symm.trans h0_) (by decide), fun h0_ => absurd ((hoff 17 (by kernel_rfl)).symm.trans h0_) (by decide), fun h0_ => absurd ((hoff 20 (by kernel_rfl)).symm.trans h0_) (by decide), fun h0_ => absurd ((hoff 11 (by kernel_rfl)).symm.trans h0_) (by decide), fun h0_ => absurd ((hoff 21 (by kernel_rfl)).symm.trans h0_) (by decide)⟩
    refine steps_cons ?_ ?_
    ·rintro b a w' ⟨v668, adz_v668, v678, m11_, m21_, ha, Q_HI0, Q_HK, Q_HB, Q_HI0_e2, Q_HI0_e4, Q_HO669, Q_HA_HO669, Q_HI0_e10, Q_HI0_e15, Q_HI0_e17, Q_HO679, Q_X11_, Q_X21_⟩ hb_ hon hoff
     refine ⟨_, rfl, fun K hK => ?_⟩
     have e9 : a.tmps[9]? = some (.int .i64 t665) := by rw [ha]; exact putSel_on (e := (4, 9, .int .i64 t665)) 1 rfl rfl (hon 4 (by kernel_rfl)) rfl
     replace ha := am_ ha
     have HK := am_ Q_HK
     have HB := am_ Q_HB
     refine value_ (w1 := w') (v := .int .i64 (wrap64 (1 + t665))) (by rfl) rfl ?_ ?_
     ·go_simp
      (try simp only [i64_w])
      try rfl
     refine hK.out _ _ ⟨v668, adz_v668, v678, m11_, m21_, (by rw [ha.out]; exact putSel_upk 2 hb_ rfl rfl rfl), fun h0_ => absurd ((hon 2 (by kernel_rfl)).symm.trans h0_) (by decide), Q_HK, Q_HB, fun _ h1_ => absurd ((hon 4 (by kernel_rfl)).symm.trans h1_) (by decide), Q_HI0_e4, Q_HO669, Q_HA_HO669, Q_HI0_e10, Q_HI0_e15, Q_HI0_e17, fun h0_ => absurd ((hoff 20 (by kernel_rfl)).symm.trans h0_) (by decide), Q_X11_, fun h0_ => absurd ((hoff 21 (by kernel_rfl)).symm.trans h0_) (by decide)⟩
    refine steps_cons ?_ ?_
    ·rintro b a w' ⟨v668, adz_v668, v678, m11_, m21_, ha, Q_HI0, Q_HK, Q_HB, Q_HI0_e2, Q_HI0_e4, Q_HO669, Q_HA_HO669, Q_HI0_e10, Q_HI0_e15, Q_HI0_e17, Q_HO679, Q_X11_, Q_X21_⟩ hb_ hon hoff
     refine ⟨_, rfl, fun K hK => ?_⟩
     have e7 : a.tmps[7]? = some (.int .i64 t663) := by rw [ha]; exact putSel_on (e := (2, 7, .int .i64 t663)) 0 rfl rfl (hon 2 (by kernel_rfl)) rfl
     have e10 : a.tmps[10]? = some (.int .i64 (wrap64 (1 + t665))) := by rw [ha]; exact putSel_on (e := (5, 10, .int .i64 (wrap64 (1 + t665)))) 2 rfl rfl (hon 5 (by kernel_rfl)) rfl
     replace ha := am_ ha
     have HK := am_ Q_HK
     have HB := am_ Q_HB
     refine value_ (w1 := w') (v := .agg #[.int .i64 1, .int .i64 t663, .int .i64 (wrap64 (1 + t665))]) (by rfl) rfl ?_ ?_
     ·go_simp
      (try simp only [i64_w])
      try rfl
     refine hK.out _ _ ⟨v668, adz_v668, v678, m11_, m21_, (by rw [ha.out]; exact putSel_upk 3 hb_ rfl rfl rfl), fun h0_ => absurd ((hon 2 (by kernel_rfl)).symm.trans h0_) (by decide), Q_HK, Q_HB, fun _ h1_ => absurd ((hon 4 (by kernel_rfl)).symm.trans h1_) (by decide), Q_HI0_e4, Q_HO669, Q_HA_HO669, Q_HI0_e10, Q_HI0_e15, Q_HI0_e17, fun h0_ => absurd ((hoff 20 (by kernel_rfl)).symm.trans h0_) (by decide), Q_X11_, fun h0_ => absurd ((hoff 21 (by kernel_rfl)).symm.trans h0_) (by decide)⟩
    refine steps_cons ?_ ?_
    ·rintro b a w' ⟨v668, adz_v668, v678, m11_, m21_, ha, Q_HI0, Q_HK, Q_HB, Q_HI0_e2, Q_HI0_e4, Q_HO669, Q_HA_HO669, Q_HI0_e10, Q_HI0_e15, Q_HI0_e17, Q_HO679, Q_X11_, Q_X21_⟩ hb_ hon hoff
     refine ⟨_, rfl, fun K hK => ?_⟩
     replace ha := am_ ha
     have HK := am_ Q_HK
     have HB := am_ Q_HB
     refine value_ (w1 := w') (v := .agg #[.int .i64 9, .int .i64 0, .int .i64 0]) (by rfl) rfl ?_ ?_
     ·go_simp
      (try simp only [i64_w])
      try rfl
     refine hK.out _ _ ⟨v668, adz_v668, v678, m11_, m21_, (by rw [ha.out]; exact putSel_upk 4 hb_ rfl rfl rfl), Q_HI0, Q_HK, Q_HB, Q_HI0_e2, Q_HI0_e4, Q_HO669, Q_HA_HO669, Q_HI0_e10, Q_HI0_e15, Q_HI0_e17, fun h0_ => absurd ((hoff 20 (by kernel_rfl)).symm.trans h0_) (by decide), Q_X11_, fun h0_ => absurd ((hoff 21 (by kernel_rfl)).symm.trans h0_) (by decide)⟩
    refine steps_cons ?_ ?_
    ·rintro b a w' ⟨v668, adz_v668, v678, m11_, m21_, ha, Q_HI0, Q_HK, Q_HB, Q_HI0_e2, Q_HI0_e4, Q_HO669, Q_HA_HO669, Q_HI0_e10, Q_HI0_e15, Q_HI0_e17, Q_HO679, Q_X11_, Q_X21_⟩ hb_ hon hoff
     refine ⟨_, rfl, fun K hK => ?_⟩
     replace ha := am_ ha
     have HK := am_ Q_HK
     have HB := am_ Q_HB
     refine Kd.R_lit_step (Kd.int .i64) _ 3 ?hg (N := 13) ?hd (xs := ([1, 6] : List Int)) (inner := [.int .i64 1, .int .i64 6]) (ok := fun _ => True) (okp := fun _ => True) ?hr ?hp (fun _ hk => hk) trivial (Below.refl _ _) (Nat.le_refl _) (by simp) ?_; (case hd => rfl); (case hg => rfl); (case hr => first | (go_simp; done) | (go_simp; rfl)); (case hp => exact (Reps.one (show Kd.M (Kd.int .i64) _ _ _ 1 [.int .i64 1] from rfl) (Reps.one (show Kd.M (Kd.int .i64) _ _ _ 6 [.int .i64 6] from rfl) (Reps.none _ _))))
     intro v668 w11 ho12 hb hg_ hnew_
     clear hg_ hnew_
     (first | rw [← Ny667.out] at ho12 | (simp only [Int.reduceToNat] at ho12; rw [← Ny667.out] at ho12))
     have n0_ := am_ (Kd.R_lower ho12 (keep_size (w := w) (g := g) (row := none) z135_3))
     have n2_ := am_ (KeepBut.trans z135_3 (KeepBut.of_below hb g none) (.inl rfl))
     have n3_ := am_ (below_step z135_2 hb)
     have z_HI0 := fun (h0_ : b 2 = false) => (show IsS116 w0 w11 g s0_0 s0_1 from by first | exact (IsS116.below (by repeat (first | (with_reducible first | exact (Q_HI0 h0_) | apply IsS116.alloc | apply IsS116.drewN | apply IsS116.drew | apply IsS116.set_1) | exact (Q_HI0 h0_))) hb))
     have z_HI0_e2 := fun (h0_ : b 2 = true) (h1_ : b 4 = false) => (show IsS116 w0 w11 g s0_0 t664 from by first | exact (IsS116.below (by repeat (first | (with_reducible first | exact (Q_HI0_e2 h0_ h1_) | apply IsS116.alloc | apply IsS116.drewN | apply IsS116.drew | apply IsS116.set_1) | exact (Q_HI0_e2 h0_ h1_))) hb))
     have z_HI0_e4 := fun (h0_ : b 4 = true) (h1_ : b 10 = false) => (show IsS116 w0 w11 g s0_0 t666 from by first | exact (IsS116.below (by repeat (first | (with_reducible first | exact (Q_HI0_e4 h0_ h1_) | apply IsS116.alloc | apply IsS116.drewN | apply IsS116.drew | apply IsS116.set_1) | exact (Q_HI0_e4 h0_ h1_))) hb))
     have z_HI0_e10 := fun (h0_ : b 10 = true) (h1_ : b 15 = false) => (show IsS116 w0 w11 g s0_0 t671 from by first | exact (IsS116.below (by repeat (first | (with_reducible first | exact (Q_HI0_e10 h0_ h1_) | apply IsS116.alloc | apply IsS116.drewN | apply IsS116.drew | apply IsS116.set_1) | exact (Q_HI0_e10 h0_ h1_))) hb))
     have z_HI0_e15 := fun (h0_ : b 15 = true) (h1_ : b 17 = false) => (show IsS116 w0 w11 g s0_0 t674 from by first | exact (IsS116.below (by repeat (first | (with_reducible first | exact (Q_HI0_e15 h0_ h1_) | apply IsS116.alloc | apply IsS116.drewN | apply IsS116.drew | apply IsS116.set_1) | exact (Q_HI0_e15 h0_ h1_))) hb))
     have z_HI0_e17 := fun (h0_ : b 17 = true) => (show IsS116 w0 w11 g s0_0 t676 from by first | exact (IsS116.below (by repeat (first | (with_reducible first | exact (Q_HI0_e17 h0_) | apply IsS116.alloc | apply IsS116.drewN | apply IsS116.drew | apply IsS116.set_1) | exact (Q_HI0_e17 h0_))) hb))
     clear HK HB
     have HO669 := n0_
     have HK := n2_
     have HB := n3_
     clear n0_ n2_ n3_ hb ho12
     obtain ⟨Ao13, co13, eo13⟩ := Kd.R_slice HO669.out
     subst eo13
     obtain ⟨ado13, fo13, _⟩ := Kd.at_int (Kd.R_reads' HO669.out).2.2 0 (by decide) (by rw [Ny667.out]; simp)
     cases fo13
     refine hK.out _ _ ⟨.slice (some ado13) y667.length co13, ado13, v678, m11_, m21_, (by rw [ha.out]; exact putSel_upk 5 hb_ rfl rfl rfl), z_HI0, z135_3, z135_2, z_HI0_e2, z_HI0_e4, fun _ => (ru HO669.out), fun _ => ⟨_, rfl⟩, z_HI0_e10, z_HI0_e15, z_HI0_e17, fun h0_ => absurd ((hoff 20 (by kernel_rfl)).symm.trans h0_) (by decide), fun h0_ => absurd ((hoff 11 (by kernel_rfl)).symm.trans h0_) (by decide), fun h0_ => absurd ((hoff 21 (by kernel_rfl)).symm.trans h0_) (by decide)⟩
    refine steps_cons ?_ ?_
    ·rintro b a w' ⟨v668, adz_v668, v678, m11_, m21_, ha, Q_HI0, Q_HK, Q_HB, Q_HI0_e2, Q_HI0_e4, Q_HO669, Q_HA_HO669, Q_HI0_e10, Q_HI0_e15, Q_HI0_e17, Q_HO679, Q_X11_, Q_X21_⟩ hb_ hon hoff
     refine ⟨_, rfl, fun K hK => ?_⟩
     have e14 : a.tmps[14]? = some (.pointer (some ⟨g, 0, none⟩)) := by rw [ha]; exact (putSel_off rfl).trans rfl
     replace ha := am_ ha
     have HK := am_ Q_HK
     have HB := am_ Q_HB
     have HI0 := am_ (Q_HI0_e4 (hon 4 (by kernel_rfl)) hb_)
     refine goes_ Try.func71 (by kernel_rfl) rfl #[.pointer (some ⟨g, 0, none⟩), .int .i64 2] (by rfl) rfl rfl (by first | (simp only [List.map_toArray, List.map_cons, List.map_nil, Act.eval, Array.getD_eq_getD_getElem?, Option.getD_some, e14]; done) | (simp only [List.map_toArray, List.map_cons, List.map_nil, Act.eval, Array.getD_eq_getD_getElem?, Option.getD_some, e14]; rfl)) ?_
     with_reducible refine (spec_l6Rd_pick.calls k g s0_0 t666 2 t670 t671 w0 _ ?side1 ?side2 A5.out).mono ?_
     (case side1 => repeat (first | (with_reducible first | exact HI0.out | apply IsS116.alloc | apply IsS116.drewN | apply IsS116.drew | apply IsS116.set_1) | exact HI0.out))
     (case side2 => repeat (first | (with_reducible first | exact HB.out | apply below_alloc | apply pw_below_drewN | apply below_drew1 | refine below_set ?_ (IsS116.ge HI0.out)) | exact HB.out))
     rintro e w14 ⟨rfl, hi, hb, hk⟩
     refine ⟨_, rfl, ?_⟩
     have n0_ := am_ (KeepBut.trans z135_3 hk (.inl rfl))
     have n1_ := am_ (hb)
     have n2_ := am_ (hi)
     have z_HO669 := fun (h0_ : b 8 = true) => (show Kd.R (Kd.int .i64) 3 w14 w.heap.size (fun _ => True) v668 y667 from by first | exact (Kd.R_mono (Kd.R_keep (IsS116.apart (show IsS116 w0 _ g s0_0 t666 from by repeat (first | (with_reducible first | exact HI0.out | apply IsS116.alloc | apply IsS116.drewN | apply IsS116.drew | apply IsS116.set_1) | exact HI0.out)) (ru (Q_HO669 h0_)) (by decide)) hk (fun _ h => h.2)) (fun _ h => h.1)) | exact Kd.R_mono (Kd.R_mono (Kd.R_keep (IsS116.apart (show IsS116 w0 _ g s0_0 t666 from by repeat (first | (with_reducible first | exact HI0.out | apply IsS116.alloc | apply IsS116.drewN | apply IsS116.drew | apply IsS116.set_1) | exact HI0.out)) (ru (Q_HO669 h0_)) (by decide)) hk (fun _ h => h.2)) (fun _ h => h.1)) (fun _ h_ => z135_1))
     clear HK HB HI0
     have HK := n0_
     have HB := n1_
     have HI0 := n2_
     clear n0_ n1_ n2_
     (try clear hb)
     (try clear hb2)
     (try clear hk)
     (try clear hi)
     refine hK.out _ _ ⟨v668, adz_v668, v678, m11_, m21_, (by rw [ha.out]; exact putSel_upk 6 hb_ rfl rfl rfl), fun h0_ => absurd ((hon 2 (by kernel_rfl)).symm.trans h0_) (by decide), z135_3, z135_5, fun _ h1_ => absurd ((hon 4 (by kernel_rfl)).symm.trans h1_) (by decide), fun _ h1_ => absurd ((up_self b 10).symm.trans h1_) (by decide), z_HO669, Q_HA_HO669, fun _ _ => z135_4, fun h0_ _ => absurd ((hoff 15 (by kernel_rfl)).symm.trans h0_) (by decide), fun h0_ => absurd ((hoff 17 (by kernel_rfl)).symm.trans h0_) (by decide), fun h0_ => absurd ((hoff 20 (by kernel_rfl)).symm.trans h0_) (by decide), fun h0_ => absurd ((hoff 11 (by kernel_rfl)).symm.trans h0_) (by decide), fun h0_ => absurd ((hoff 21 (by kernel_rfl)).symm.trans h0_) (by decide)⟩
    refine steps_cons ?_ ?_
    ·rintro b a w' ⟨v668, adz_v668, v678, m11_, m21_, ha, Q_HI0, Q_HK, Q_HB, Q_HI0_e2, Q_HI0_e4, Q_HO669, Q_HA_HO669, Q_HI0_e10, Q_HI0_e15, Q_HI0_e17, Q_HO679, Q_X11_, Q_X21_⟩ hb_ hon hoff
     refine ⟨_, rfl, fun K hK => ?_⟩
     have e13 : a.tmps[13]? = some (v668) := by rw [ha]; exact putSel_on (e := (8, 13, v668)) 5 rfl rfl (hon 8 (by kernel_rfl)) rfl
     have e15 : a.tmps[15]? = some (.int .i64 t670) := by rw [ha]; exact putSel_on (e := (10, 15, .int .i64 t670)) 6 rfl rfl (hon 10 (by kernel_rfl)) rfl
     replace ha := am_ ha
     have HK := am_ Q_HK
     have HB := am_ Q_HB
     have HO669 := am_ (Q_HO669 (hon 8 (by kernel_rfl)))
     have HA_HO669 := am_ (Q_HA_HO669 (hon 8 (by kernel_rfl)))
     obtain ⟨c_, hv_⟩ := HA_HO669.out
     rw [hv_] at e13
     refine value_ (w1 := w') (v := .pointer (some (adz_v668.add (t670).toNat))) (by rfl) rfl ?_ ?_
     ·go_simp
      (try simp only [i64_w])
      try rfl
     refine hK.out _ _ ⟨v668, adz_v668, v678, (.pointer (some (adz_v668.add (t670).toNat))), m21_, (by rw [ha.out]; exact putSel_upk 7 hb_ rfl rfl rfl), fun h0_ => absurd ((hon 2 (by kernel_rfl)).symm.trans h0_) (by decide), Q_HK, Q_HB, fun _ h1_ => absurd ((hon 4 (by kernel_rfl)).symm.trans h1_) (by decide), fun _ h1_ => absurd ((hon 10 (by kernel_rfl)).symm.trans h1_) (by decide), Q_HO669, Q_HA_HO669, Q_HI0_e10, Q_HI0_e15, Q_HI0_e17, fun h0_ => absurd ((hoff 20 (by kernel_rfl)).symm.trans h0_) (by decide), fun _ => rfl, fun h0_ => absurd ((hoff 21 (by kernel_rfl)).symm.trans h0_) (by decide)⟩
    refine steps_cons ?_ ?_
    ·rintro b a w' ⟨v668, adz_v668, v678, m11_, m21_, ha, Q_HI0, Q_HK, Q_HB, Q_HI0_e2, Q_HI0_e4, Q_HO669, Q_HA_HO669, Q_HI0_e10, Q_HI0_e15, Q_HI0_e17, Q_HO679, Q_X11_, Q_X21_⟩ hb_ hon hoff
     refine ⟨_, rfl, fun K hK => ?_⟩
     have e16 : a.tmps[16]? = some (m11_) := by rw [ha]; exact putSel_on (e := (11, 16, m11_)) 7 rfl rfl (hon 11 (by kernel_rfl)) rfl
     rw [Q_X11_ (hon 11 (by kernel_rfl))] at e16
     replace ha := am_ ha
     have HK := am_ Q_HK
     have HB := am_ Q_HB
     have HO669 := am_ (Q_HO669 (hon 8 (by kernel_rfl)))
     have HA_HO669 := am_ (Q_HA_HO669 (hon 8 (by kernel_rfl)))
     obtain ⟨c_, hv_⟩ := HA_HO669.out
     have hF_ := HO669.out
     rw [hv_] at hF_
     obtain ⟨ad_, ea_, hx_⟩ := Kd.at_int (Kd.R_reads' hF_).2.2 t670 (of_eq_true pi672) (of_eq_true qi672)
     cases ea_
     refine value_ (w1 := w') (v := .int .i64 (rd y667 t670)) (by rfl) rfl ?_ ?_
     ·go_simp
      (try simp only [i64_w])
      try rfl
     refine hK.out _ _ ⟨v668, adz_v668, v678, m11_, m21_, (by rw [ha.out]; exact putSel_upk 8 hb_ rfl rfl rfl), fun h0_ => absurd ((hon 2 (by kernel_rfl)).symm.trans h0_) (by decide), Q_HK, Q_HB, fun _ h1_ => absurd ((hon 4 (by kernel_rfl)).symm.trans h1_) (by decide), fun _ h1_ => absurd ((hon 10 (by kernel_rfl)).symm.trans h1_) (by decide), Q_HO669, Q_HA_HO669, Q_HI0_e10, Q_HI0_e15, Q_HI0_e17, fun h0_ => absurd ((hoff 20 (by kernel_rfl)).symm.trans h0_) (by decide), Q_X11_, fun h0_ => absurd ((hoff 21 (by kernel_rfl)).symm.trans h0_) (by decide)⟩
    refine steps_cons ?_ ?_
    ·rintro b a w' ⟨v668, adz_v668, v678, m11_, m21_, ha, Q_HI0, Q_HK, Q_HB, Q_HI0_e2, Q_HI0_e4, Q_HO669, Q_HA_HO669, Q_HI0_e10, Q_HI0_e15, Q_HI0_e17, Q_HO679, Q_X11_, Q_X21_⟩ hb_ hon hoff
     refine ⟨_, rfl, fun K hK => ?_⟩
     have e18 : a.tmps[18]? = some (.pointer (some ⟨g, 0, none⟩)) := by rw [ha]; exact (putSel_off rfl).trans rfl
     have e19 : a.tmps[19]? = some (.int .i64 a1) := by rw [ha]; exact (putSel_off rfl).trans rfl
     replace ha := am_ ha
     have HK := am_ Q_HK
     have HB := am_ Q_HB
     have HI0 := am_ (Q_HI0_e10 (hon 10 (by kernel_rfl)) hb_)
     refine goes_ Try.func71 (by kernel_rfl) rfl #[.pointer (some ⟨g, 0, none⟩), .int .i64 a1] (by rfl) rfl rfl (by first | (simp only [List.map_toArray, List.map_cons, List.map_nil, Act.eval, Array.getD_eq_getD_getElem?, Option.getD_some, e18, e19]; done) | (simp only [List.map_toArray, List.map_cons, List.map_nil, Act.eval, Array.getD_eq_getD_getElem?, Option.getD_some, e18, e19]; rfl)) ?_
     with_reducible refine (spec_l6Rd_pick.calls k g s0_0 t671 a1 t673 t674 w0 _ ?side1 ?side2 A8.out).mono ?_
     (case side1 => repeat (first | (with_reducible first | exact HI0.out | apply IsS116.alloc | apply IsS116.drewN | apply IsS116.drew | apply IsS116.set_1) | exact HI0.out))
     (case side2 => repeat (first | (with_reducible first | exact HB.out | apply below_alloc | apply pw_below_drewN | apply below_drew1 | refine below_set ?_ (IsS116.ge HI0.out)) | exact HB.out))
     rintro e w15 ⟨rfl, hi, hb, hk⟩
     refine ⟨_, rfl, ?_⟩
     have n0_ := am_ (KeepBut.trans z135_3 hk (.inl rfl))
     have n1_ := am_ (hb)
     have n2_ := am_ (hi)
     have z_HO669 := fun (h0_ : b 8 = true) => (show Kd.R (Kd.int .i64) 3 w15 w.heap.size (fun _ => True) v668 y667 from by first | exact (Kd.R_mono (Kd.R_keep (IsS116.apart (show IsS116 w0 _ g s0_0 t671 from by repeat (first | (with_reducible first | exact HI0.out | apply IsS116.alloc | apply IsS116.drewN | apply IsS116.drew | apply IsS116.set_1) | exact HI0.out)) (ru (Q_HO669 h0_)) (by decide)) hk (fun _ h => h.2)) (fun _ h => h.1)) | exact Kd.R_mono (Kd.R_mono (Kd.R_keep (IsS116.apart (show IsS116 w0 _ g s0_0 t671 from by repeat (first | (with_reducible first | exact HI0.out | apply IsS116.alloc | apply IsS116.drewN | apply IsS116.drew | apply IsS116.set_1) | exact HI0.out)) (ru (Q_HO669 h0_)) (by decide)) hk (fun _ h => h.2)) (fun _ h => h.1)) (fun _ h_ => z135_1))
     clear HK HB HI0
     have HK := n0_
     have HB := n1_
     have HI0 := n2_
     clear n0_ n1_ n2_
     (try clear hb)
     (try clear hb2)
     (try clear hk)
     (try clear hi)
     refine hK.out _ _ ⟨v668, adz_v668, v678, m11_, m21_, (by rw [ha.out]; exact putSel_upk 9 hb_ rfl rfl rfl), fun h0_ => absurd ((hon 2 (by kernel_rfl)).symm.trans h0_) (by decide), z135_3, z135_5, fun _ h1_ => absurd ((hon 4 (by kernel_rfl)).symm.trans h1_) (by decide), fun _ h1_ => absurd ((hon 10 (by kernel_rfl)).symm.trans h1_) (by decide), z_HO669, Q_HA_HO669, fun _ h1_ => absurd ((up_self b 15).symm.trans h1_) (by decide), fun _ _ => z135_4, fun h0_ => absurd ((hoff 17 (by kernel_rfl)).symm.trans h0_) (by decide), fun h0_ => absurd ((hoff 20 (by kernel_rfl)).symm.trans h0_) (by decide), Q_X11_, fun h0_ => absurd ((hoff 21 (by kernel_rfl)).symm.trans h0_) (by decide)⟩
    refine steps_cons ?_ ?_
    ·rintro b a w' ⟨v668, adz_v668, v678, m11_, m21_, ha, Q_HI0, Q_HK, Q_HB, Q_HI0_e2, Q_HI0_e4, Q_HO669, Q_HA_HO669, Q_HI0_e10, Q_HI0_e15, Q_HI0_e17, Q_HO679, Q_X11_, Q_X21_⟩ hb_ hon hoff
     refine ⟨_, rfl, fun K hK => ?_⟩
     have e21 : a.tmps[21]? = some (.pointer (some ⟨g, 0, none⟩)) := by rw [ha]; exact (putSel_off rfl).trans rfl
     replace ha := am_ ha
     have HK := am_ Q_HK
     have HB := am_ Q_HB
     have HI0 := am_ (Q_HI0_e15 (hon 15 (by kernel_rfl)) hb_)
     refine goes_ Try.func71 (by kernel_rfl) rfl #[.pointer (some ⟨g, 0, none⟩), .int .i64 2] (by rfl) rfl rfl (by first | (simp only [List.map_toArray, List.map_cons, List.map_nil, Act.eval, Array.getD_eq_getD_getElem?, Option.getD_some, e21]; done) | (simp only [List.map_toArray, List.map_cons, List.map_nil, Act.eval, Array.getD_eq_getD_getElem?, Option.getD_some, e21]; rfl)) ?_
     with_reducible refine (spec_l6Rd_pick.calls k g s0_0 t674 2 t675 t676 w0 _ ?side1 ?side2 A9.out).mono ?_
     (case side1 => repeat (first | (with_reducible first | exact HI0.out | apply IsS116.alloc | apply IsS116.drewN | apply IsS116.drew | apply IsS116.set_1) | exact HI0.out))
     (case side2 => repeat (first | (with_reducible first | exact HB.out | apply below_alloc | apply pw_below_drewN | apply below_drew1 | refine below_set ?_ (IsS116.ge HI0.out)) | exact HB.out))
     rintro e w16 ⟨rfl, hi, hb, hk⟩
     refine ⟨_, rfl, ?_⟩
     have n0_ := am_ (KeepBut.trans z135_3 hk (.inl rfl))
     have n1_ := am_ (hb)
     have n2_ := am_ (hi)
     have z_HO669 := fun (h0_ : b 8 = true) => (show Kd.R (Kd.int .i64) 3 w16 w.heap.size (fun _ => True) v668 y667 from by first | exact (Kd.R_mono (Kd.R_keep (IsS116.apart (show IsS116 w0 _ g s0_0 t674 from by repeat (first | (with_reducible first | exact HI0.out | apply IsS116.alloc | apply IsS116.drewN | apply IsS116.drew | apply IsS116.set_1) | exact HI0.out)) (ru (Q_HO669 h0_)) (by decide)) hk (fun _ h => h.2)) (fun _ h => h.1)) | exact Kd.R_mono (Kd.R_mono (Kd.R_keep (IsS116.apart (show IsS116 w0 _ g s0_0 t674 from by repeat (first | (with_reducible first | exact HI0.out | apply IsS116.alloc | apply IsS116.drewN | apply IsS116.drew | apply IsS116.set_1) | exact HI0.out)) (ru (Q_HO669 h0_)) (by decide)) hk (fun _ h => h.2)) (fun _ h => h.1)) (fun _ h_ => z135_1))
     clear HK HB HI0
     have HK := n0_
     have HB := n1_
     have HI0 := n2_
     clear n0_ n1_ n2_
     (try clear hb)
     (try clear hb2)
     (try clear hk)
     (try clear hi)
     refine hK.out _ _ ⟨v668, adz_v668, v678, m11_, m21_, (by rw [ha.out]; exact putSel_upk 10 hb_ rfl rfl rfl), fun h0_ => absurd ((hon 2 (by kernel_rfl)).symm.trans h0_) (by decide), z135_3, z135_5, fun _ h1_ => absurd ((hon 4 (by kernel_rfl)).symm.trans h1_) (by decide), fun _ h1_ => absurd ((hon 10 (by kernel_rfl)).symm.trans h1_) (by decide), z_HO669, Q_HA_HO669, fun _ h1_ => absurd ((hon 15 (by kernel_rfl)).symm.trans h1_) (by decide), fun _ h1_ => absurd ((up_self b 17).symm.trans h1_) (by decide), fun _ => z135_4, fun h0_ => absurd ((hoff 20 (by kernel_rfl)).symm.trans h0_) (by decide), Q_X11_, fun h0_ => absurd ((hoff 21 (by kernel_rfl)).symm.trans h0_) (by decide)⟩
    refine steps_cons ?_ ?_
    ·rintro b a w' ⟨v668, adz_v668, v678, m11_, m21_, ha, Q_HI0, Q_HK, Q_HB, Q_HI0_e2, Q_HI0_e4, Q_HO669, Q_HA_HO669, Q_HI0_e10, Q_HI0_e15, Q_HI0_e17, Q_HO679, Q_X11_, Q_X21_⟩ hb_ hon hoff
     refine ⟨_, rfl, fun K hK => ?_⟩
     have e22 : a.tmps[22]? = some (.int .i64 t675) := by rw [ha]; exact putSel_on (e := (17, 22, .int .i64 t675)) 10 rfl rfl (hon 17 (by kernel_rfl)) rfl
     replace ha := am_ ha
     have HK := am_ Q_HK
     have HB := am_ Q_HB
     have HI0 := am_ (Q_HI0_e17 (hon 17 (by kernel_rfl)))
     refine value_ (w1 := w') (v := .int .i64 (wrap64 (1 + t675))) (by rfl) rfl ?_ ?_
     ·go_simp
      (try simp only [i64_w])
      try rfl
     refine hK.out _ _ ⟨v668, adz_v668, v678, m11_, m21_, (by rw [ha.out]; exact putSel_upk 11 hb_ rfl rfl rfl), fun h0_ => absurd ((hon 2 (by kernel_rfl)).symm.trans h0_) (by decide), Q_HK, Q_HB, fun _ h1_ => absurd ((hon 4 (by kernel_rfl)).symm.trans h1_) (by decide), fun _ h1_ => absurd ((hon 10 (by kernel_rfl)).symm.trans h1_) (by decide), Q_HO669, Q_HA_HO669, fun _ h1_ => absurd ((hon 15 (by kernel_rfl)).symm.trans h1_) (by decide), fun _ h1_ => absurd ((hon 17 (by kernel_rfl)).symm.trans h1_) (by decide), Q_HI0_e17, fun h0_ => absurd ((hoff 20 (by kernel_rfl)).symm.trans h0_) (by decide), Q_X11_, fun h0_ => absurd ((hoff 21 (by kernel_rfl)).symm.trans h0_) (by decide)⟩
    refine steps_cons ?_ ?_
    ·rintro b a w' ⟨v668, adz_v668, v678, m11_, m21_, ha, Q_HI0, Q_HK, Q_HB, Q_HI0_e2, Q_HI0_e4, Q_HO669, Q_HA_HO669, Q_HI0_e10, Q_HI0_e15, Q_HI0_e17, Q_HO679, Q_X11_, Q_X21_⟩ hb_ hon hoff
     refine ⟨_, rfl, fun K hK => ?_⟩
     have e17 : a.tmps[17]? = some (.int .i64 (rd y667 t670)) := by rw [ha]; exact putSel_on (e := (12, 17, .int .i64 (rd y667 t670))) 8 rfl rfl (hon 12 (by kernel_rfl)) rfl
     have e20 : a.tmps[20]? = some (.int .i64 t673) := by rw [ha]; exact putSel_on (e := (15, 20, .int .i64 t673)) 9 rfl rfl (hon 15 (by kernel_rfl)) rfl
     have e23 : a.tmps[23]? = some (.int .i64 (wrap64 (1 + t675))) := by rw [ha]; exact putSel_on (e := (18, 23, .int .i64 (wrap64 (1 + t675)))) 11 rfl rfl (hon 18 (by kernel_rfl)) rfl
     replace ha := am_ ha
     have HK := am_ Q_HK
     have HB := am_ Q_HB
     have HO669 := am_ (Q_HO669 (hon 8 (by kernel_rfl)))
     have HA_HO669 := am_ (Q_HA_HO669 (hon 8 (by kernel_rfl)))
     have HI0 := am_ (Q_HI0_e17 (hon 17 (by kernel_rfl)))
     refine value_ (w1 := w') (v := .agg #[.int .i64 (rd y667 t670), .int .i64 t673, .int .i64 (wrap64 (1 + t675))]) (by rfl) rfl ?_ ?_
     ·go_simp
      (try simp only [i64_w])
      try rfl
     refine hK.out _ _ ⟨v668, adz_v668, v678, m11_, m21_, (by rw [ha.out]; exact putSel_upk 12 hb_ rfl rfl rfl), fun h0_ => absurd ((hon 2 (by kernel_rfl)).symm.trans h0_) (by decide), Q_HK, Q_HB, fun _ h1_ => absurd ((hon 4 (by kernel_rfl)).symm.trans h1_) (by decide), fun _ h1_ => absurd ((hon 10 (by kernel_rfl)).symm.trans h1_) (by decide), Q_HO669, Q_HA_HO669, fun _ h1_ => absurd ((hon 15 (by kernel_rfl)).symm.trans h1_) (by decide), fun _ h1_ => absurd ((hon 17 (by kernel_rfl)).symm.trans h1_) (by decide), Q_HI0_e17, fun h0_ => absurd ((hoff 20 (by kernel_rfl)).symm.trans h0_) (by decide), Q_X11_, fun h0_ => absurd ((hoff 21 (by kernel_rfl)).symm.trans h0_) (by decide)⟩
    refine steps_cons ?_ ?_
    ·rintro b a w' ⟨v668, adz_v668, v678, m11_, m21_, ha, Q_HI0, Q_HK, Q_HB, Q_HI0_e2, Q_HI0_e4, Q_HO669, Q_HA_HO669, Q_HI0_e10, Q_HI0_e15, Q_HI0_e17, Q_HO679, Q_X11_, Q_X21_⟩ hb_ hon hoff
     refine ⟨_, rfl, fun K hK => ?_⟩
     have e11 : a.tmps[11]? = some (.agg #[.int .i64 1, .int .i64 t663, .int .i64 (wrap64 (1 + t665))]) := by rw [ha]; exact putSel_on (e := (6, 11, .agg #[.int .i64 1, .int .i64 t663, .int .i64 (wrap64 (1 + t665))])) 3 rfl rfl (hon 6 (by kernel_rfl)) rfl
     have e12 : a.tmps[12]? = some (.agg #[.int .i64 9, .int .i64 0, .int .i64 0]) := by rw [ha]; exact putSel_on (e := (7, 12, .agg #[.int .i64 9, .int .i64 0, .int .i64 0])) 4 rfl rfl (hon 7 (by kernel_rfl)) rfl
     have e24 : a.tmps[24]? = some (.agg #[.int .i64 (rd y667 t670), .int .i64 t673, .int .i64 (wrap64 (1 + t675))]) := by rw [ha]; exact putSel_on (e := (19, 24, .agg #[.int .i64 (rd y667 t670), .int .i64 t673, .int .i64 (wrap64 (1 + t675))])) 12 rfl rfl (hon 19 (by kernel_rfl)) rfl
     replace ha := am_ ha
     have HK := am_ Q_HK
     have HB := am_ Q_HB
     have HO669 := am_ (Q_HO669 (hon 8 (by kernel_rfl)))
     have HA_HO669 := am_ (Q_HA_HO669 (hon 8 (by kernel_rfl)))
     have HI0 := am_ (Q_HI0_e17 (hon 17 (by kernel_rfl)))
     obtain ⟨co20, eo20⟩ := HA_HO669.out
     clear HA_HO669
     subst eo20
     refine Kd.R_lit_step k85 _ 85 ?hg (N := 25) ?hd (xs := ([(⟨1, t663, wrap64 (1 + t665)⟩ : S85), (⟨9, 0, 0⟩ : S85), (⟨rd y667 t670, t673, wrap64 (1 + t675)⟩ : S85)] : List (S85))) (inner := [.int .i64 1, .int .i64 t663, .int .i64 (wrap64 (1 + t665)), .int .i64 9, .int .i64 0, .int .i64 0, .int .i64 (rd y667 t670), .int .i64 t673, .int .i64 (wrap64 (1 + t675))]) (ok := fun _ => True) (okp := fun _ => True) ?hr ?hp (fun _ hk => hk) trivial (Below.refl _ _) (Nat.le_refl _) (by simp) ?_; (case hd => rfl); (case hg => rfl); (case hr => first | (go_simp; done) | (go_simp; rfl)); (case hp => exact (Reps.c3 (show Kd.M k85 _ _ _ (⟨1, t663, wrap64 (1 + t665)⟩ : S85) [.int .i64 1, .int .i64 t663, .int .i64 (wrap64 (1 + t665))] from (k85_mkM _ _ _ (⟨1, t663, wrap64 (1 + t665)⟩ : S85) )) (Reps.c3 (show Kd.M k85 _ _ _ (⟨9, 0, 0⟩ : S85) [.int .i64 9, .int .i64 0, .int .i64 0] from (k85_mkM _ _ _ (⟨9, 0, 0⟩ : S85) )) (Reps.c3 (show Kd.M k85 _ _ _ (⟨rd y667 t670, t673, wrap64 (1 + t675)⟩ : S85) [.int .i64 (rd y667 t670), .int .i64 t673, .int .i64 (wrap64 (1 + t675))] from (k85_mkM _ _ _ (⟨rd y667 t670, t673, wrap64 (1 + t675)⟩ : S85) )) (Reps.none _ _)))))
     intro v678 w21 ho22 hb hg_ hnew_
     clear hg_ hnew_
     (first | rw [← Ny677.out] at ho22 | (simp only [Int.reduceToNat] at ho22; rw [← Ny677.out] at ho22))
     have n0_ := am_ (Kd.R_below (ru HO669.out) hb)
     have n1_ := am_ (Kd.R_lower ho22 (keep_size (w := w) (g := g) (row := none) z135_3))
     have n2_ := am_ (IsS116.below z135_4 hb)
     have n3_ := am_ (KeepBut.trans z135_3 (KeepBut.of_below hb g none) (.inl rfl))
     have n4_ := am_ (below_step z135_5 hb)
     clear HO669 HI0 HK HB
     have HO669 := n0_
     have HO679 := n1_
     have HI0 := n2_
     have HK := n3_
     have HB := n4_
     clear n0_ n1_ n2_ n3_ n4_ hb ho22
     refine hK.out _ _ ⟨.slice (some adz_v668) y667.length co20, adz_v668, v678, m11_, m21_, (by rw [ha.out]; exact putSel_upk 13 hb_ rfl rfl rfl), fun h0_ => absurd ((hon 2 (by kernel_rfl)).symm.trans h0_) (by decide), z135_3, z135_5, fun _ h1_ => absurd ((hon 4 (by kernel_rfl)).symm.trans h1_) (by decide), fun _ h1_ => absurd ((hon 10 (by kernel_rfl)).symm.trans h1_) (by decide), fun _ => (ru HO669.out), fun _ => ⟨_, rfl⟩, fun _ h1_ => absurd ((hon 15 (by kernel_rfl)).symm.trans h1_) (by decide), fun _ h1_ => absurd ((hon 17 (by kernel_rfl)).symm.trans h1_) (by decide), fun _ => z135_4, fun _ => (ru HO679.out), Q_X11_, fun h0_ => absurd ((hoff 21 (by kernel_rfl)).symm.trans h0_) (by decide)⟩
    refine steps_cons ?_ ?_
    ·rintro b a w' ⟨v668, adz_v668, v678, m11_, m21_, ha, Q_HI0, Q_HK, Q_HB, Q_HI0_e2, Q_HI0_e4, Q_HO669, Q_HA_HO669, Q_HI0_e10, Q_HI0_e15, Q_HI0_e17, Q_HO679, Q_X11_, Q_X21_⟩ hb_ hon hoff
     refine ⟨_, rfl, fun K hK => ?_⟩
     have e25 : a.tmps[25]? = some (v678) := by rw [ha]; exact putSel_on (e := (20, 25, v678)) 13 rfl rfl (hon 20 (by kernel_rfl)) rfl
     replace ha := am_ ha
     have HK := am_ Q_HK
     have HB := am_ Q_HB
     have HO669 := am_ (Q_HO669 (hon 8 (by kernel_rfl)))
     have HA_HO669 := am_ (Q_HA_HO669 (hon 8 (by kernel_rfl)))
     have HI0 := am_ (Q_HI0_e17 (hon 17 (by kernel_rfl)))
     have HO679 := am_ (Q_HO679 (hon 20 (by kernel_rfl)))
     refine value_ (w1 := w') (v := v678) (by rfl) rfl ?_ ?_
     ·go_simp
      (try simp only [i64_w])
      try rfl
     refine hK.out _ _ ⟨v668, adz_v668, v678, m11_, (v678), (by rw [ha.out]; exact putSel_upk 14 hb_ rfl rfl rfl), fun h0_ => absurd ((hon 2 (by kernel_rfl)).symm.trans h0_) (by decide), Q_HK, Q_HB, fun _ h1_ => absurd ((hon 4 (by kernel_rfl)).symm.trans h1_) (by decide), fun _ h1_ => absurd ((hon 10 (by kernel_rfl)).symm.trans h1_) (by decide), Q_HO669, Q_HA_HO669, fun _ h1_ => absurd ((hon 15 (by kernel_rfl)).symm.trans h1_) (by decide), fun _ h1_ => absurd ((hon 17 (by kernel_rfl)).symm.trans h1_) (by decide), Q_HI0_e17, Q_HO679, Q_X11_, fun _ => rfl⟩
    exact steps_nil
   rintro b a w21 hall ⟨v668, adz_v668, v678, m11_, m21_, ha, Q_HI0, Q_HK, Q_HB, Q_HI0_e2, Q_HI0_e4, Q_HO669, Q_HA_HO669, Q_HI0_e10, Q_HI0_e15, Q_HI0_e17, Q_HO679, Q_X11_, Q_X21_⟩
   clear HB HI0 HK
   have hb2_ := hall 2 (by kernel_rfl)
   have hb4_ := hall 4 (by kernel_rfl)
   have hb5_ := hall 5 (by kernel_rfl)
   have hb6_ := hall 6 (by kernel_rfl)
   have hb7_ := hall 7 (by kernel_rfl)
   have hb8_ := hall 8 (by kernel_rfl)
   have hb10_ := hall 10 (by kernel_rfl)
   have hb11_ := hall 11 (by kernel_rfl)
   have hb12_ := hall 12 (by kernel_rfl)
   have hb15_ := hall 15 (by kernel_rfl)
   have hb17_ := hall 17 (by kernel_rfl)
   have hb18_ := hall 18 (by kernel_rfl)
   have hb19_ := hall 19 (by kernel_rfl)
   have hb20_ := hall 20 (by kernel_rfl)
   have hb21_ := hall 21 (by kernel_rfl)
   subst ha
   obtain rfl := Q_X11_ hb11_
   obtain rfl := Q_X21_ hb21_
   simp only [putSel, hb2_, hb4_, hb5_, hb6_, hb7_, hb8_, hb10_, hb11_, hb12_, hb15_, hb17_, hb18_, hb19_, hb20_, hb21_, if_true, Act.put, List.setIfInBounds_toArray, List.set_cons_zero, List.set_cons_succ]
   clear Q_HI0
   have HK := am_ Q_HK
   clear Q_HK
   have HB := am_ Q_HB
   clear Q_HB Q_HI0_e2 Q_HI0_e4
   have HO669 := am_ (Q_HO669 hb8_)
   clear Q_HO669
   have HA_HO669 := am_ (Q_HA_HO669 hb8_)
   clear Q_HA_HO669 Q_HI0_e10 Q_HI0_e15
   have HI0 := am_ (Q_HI0_e17 hb17_)
   clear Q_HI0_e17
   have HO679 := am_ (Q_HO679 hb20_)
   clear Q_HO679 hall hb2_ hb4_ hb5_ hb6_ hb7_ hb8_ hb10_ hb11_ hb12_ hb15_ hb17_ hb18_ hb19_ hb20_ hb21_
   obtain ⟨co22, eo22⟩ := HA_HO669.out
   clear HA_HO669
   subst eo22
   try go_wp2
   go_ret
   exact ⟨_, by first | rfl | (simp [errW_none, errW_some] <;> rfl) | (simp [*, errW_none, errW_some] <;> rfl), ru HO679.out, z135_4, z135_5, z135_3⟩
  rw [if_neg c7] at H
  exact absurd H (by simp)
 rw [if_neg c6] at H
 exact absurd H (by simp)

end Go.Proofs.Ytefkbmhkhpekjaa.PB

namespace Go.Proofs.Ytefkbmhkhpekjaa.PB
open Go.RowKit Go.Proofs.YtefkbmhkhpekjaaW.PrintWords Go.Proofs.YtefkbmhkhpekjaaW.PrintLast Go.Proofs.YtefkbmhkhpekjaaW.PrintMore
attribute [local go_sem] max2_int min2_int max_two min_two max_three min_three max_four min_four   -- for this text's walks alone
open Go.Proofs.YtefkbmhkhpekjaaMine
set_option linter.unusedVariables false
set_option linter.unusedSimpArgs false

theorem z136_1 {p : Prop} (h : p := by first | rfl | (simp; done) | (simp [*]; done)) : p := h
theorem z136_2 {p : Prop} (h : p := by repeat (first | (with_reducible first | exact HB.out | apply below_alloc | apply pw_below_drewN | apply below_drew1) | exact HB.out)) : p := h
theorem z136_3 {p : Prop} (h : p := by repeat (first | (with_reducible first | exact HB.out | apply below_alloc | apply pw_below_drewN | apply below_drew1 | refine below_set ?_ GE680.out) | exact HB.out)) : p := h
/-! ### spec_l71Steps: function 136 -/
def spec_l71Steps.l0 : Nat → Int → Int → List (List (S85)) → Option (Int)
  | 0, _, _, _ => none
  | k + 1, x3, x4, x00 => if x4 < (x00.length : Int) then (if 0 ≤ x4 then (spec_l71Steps.l0 k (wrap64 (x3 + ((rd_L7 x00 x4).length : Int))) (wrap64 (x4 + 1)) x00) else (none)) else (some x3)
def spec_l71Steps.f (k : Nat) (l0_0 : List (List (S85))) : Option (Int) := spec_l71Steps.l0 k 0 0 l0_0
set_option maxHeartbeats 8000000 in
set_option maxRecDepth 100000 in
theorem spec_l71Steps.calls (k : Nat) (A0_0 : Option Addr) (c0_0 : Nat) (l0_0 : List (List (S85))) (r : Int) (w : World) (hr0_0 : Kd.C (Kd.slice 85 k85) w A0_0 l0_0.length l0_0) (hc0_0 : l0_0.length ≤ c0_0) (h : spec_l71Steps.f k l0_0 = some r) :
  Calls Try.prog 136 #[.agg #[.slice A0_0 l0_0.length c0_0]] w fun e w' => e = .returned (.int .i64 r) ∧ Below w.heap.size w w' := by
 have hu35 := Try.underlying35
 have HR0_0 := am_ hr0_0
 have HC0_0 := am_ hc0_0
 clear hr0_0 hc0_0
 have HB := am_ (Below.refl w.heap.size w)
 have H : (spec_l71Steps.l0 k 0 0 l0_0) = some r := h
 clear h
 have H' := am_ H
 clear H
 go_enter Try.func136, Try.ntmps136
 go_wp2_with (first | ((with_reducible refine gate_dst (N := 1) rfl ?_); refine box_event ?hg (N := 1) ?hd (cs := #[.slice A0_0 l0_0.length c0_0]) (t := 35) ?hr ?_; (case hd => rfl); (case hg => rfl); (case hr => first | (go_simp; done) | (go_simp; rfl)); intro gb680 hg w2 hbox hb; have n0_ := am_ (below_step z136_2 hb); have n1_ := am_ (hbox); have n2_ := am_ (by rw [hg]; exact (below_size z136_2) : w.heap.size ≤ gb680); have n3_ := am_ (by rw [hg]; exact (below_size z136_2) : w.heap.size ≤ gb680); clear HB; have HB := n0_; have BK680 := n1_; have GW680 := n2_; have GE680 := n3_; clear n0_ n1_ n2_ n3_; clear hb hbox hg))
 go_loopg [3, 4] k (fun kq v3 v4 w' => ∃ (x3_1 : Int) (x4_1 : Int), v3 = .int .i64 x3_1 ∧ v4 = .int .i64 x4_1 ∧ Aside0 (spec_l71Steps.l0 kq x3_1 x4_1 l0_0 = some r) ∧ Aside0 (kq ≤ k) ∧ Aside0 (w'.heap[gb680]? = some (.cells #[(.slice A0_0 l0_0.length c0_0)] 35 (0, 0))) ∧ Aside0 (Below w.heap.size w w'))
 case atStart => exact ⟨(0), (0), z136_1, z136_1, H', ⟨Nat.le_refl _⟩, ⟨bu BK680.out⟩, ⟨z136_3⟩⟩
 case round =>
  clear H'
  obtain ⟨x3_1, x4_1, rfl, rfl, HA, HK1, BK680, HB⟩ := hrel
  cases gk with
  | zero => exact absurd HA.out (by simp [spec_l71Steps.l0])
  | succ k1 =>
   have H := HA.out
   clear HA
   simp only [spec_l71Steps.l0] at H
   by_cases c3 : x4_1 < (l0_0.length : Int)
   ·rw [if_pos c3] at H
    have c3b0 : decide (x4_1 < (l0_0.length : Int)) = true := decide_eq_true c3
    clear c3
    by_cases c4 : 0 ≤ x4_1
    ·rw [if_pos c4] at H
     have c4b0 : decide (0 ≤ x4_1) = true := decide_eq_true c4
     clear c4
     have H' := am_ H
     clear H
     have hcz5_0 := cf0 BK680.out
     have hfz5_0 := blk_frozen BK680.out 0
     have p681 : 0 ≤ (x4_1 : Int) := of_decide_eq_true (by first | (with_reducible assumption) | assumption)
     have q681 : x4_1 < (l0_0.length : Int) := of_decide_eq_true (by first | (with_reducible assumption) | assumption)
     obtain ⟨ad681, A681_0, c681_0, e681, hx681_0, hl681_0, hi681_0⟩ := at_L7 HR0_0.out x4_1 p681 q681
     cases e681
     replace hx681_0 := (HB.out.cell (World.block_lt_of_cell? w _ hx681_0)).trans hx681_0
     have HR681_0 := am_ hi681_0
     have HC681_0 := am_ hl681_0
     clear hi681_0 hl681_0
     replace p681 := eq_true p681
     replace q681 := eq_true q681
     go_wp2
     go_roundg k1
     case measure => have := HK1.out; omega
     case rel => exact ⟨(wrap64 (x3_1 + ((rd_L7 l0_0 x4_1).length : Int))), (wrap64 (x4_1 + 1)), z136_1, z136_1, H', ⟨by have := HK1.out; omega⟩, ⟨bu BK680.out⟩, ⟨z136_3⟩⟩
    rw [if_neg c4] at H
    exact absurd H (by simp)
   rw [if_neg c3] at H
   have c3b0 : decide (x4_1 < (l0_0.length : Int)) = false := decide_eq_false c3
   clear c3
   obtain rfl := Option.some.inj H
   have hcz6_0 := cf0 BK680.out
   have hfz6_0 := blk_frozen BK680.out 0
   go_wp2
   go_ret
   exact ⟨by first | rfl | (simp [errW_none, errW_some] <;> rfl) | (simp [*, errW_none, errW_some] <;> rfl), z136_3⟩

end Go.Proofs.Ytefkbmhkhpekjaa.PB

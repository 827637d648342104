-- Joined by wip/mclaim.py out of YtefkbmhkhpekjaaPBx108, YtefkbmhkhpekjaaPBx64, YtefkbmhkhpekjaaPBx65, YtefkbmhkhpekjaaPBx21
import Derived.Test.YtefkbmhkhpekjaaPBx0
import Derived.Test.YtefkbmhkhpekjaaJFnExactTurnSeenx4
import Derived.Test.YtefkbmhkhpekjaaPBx24
import Derived.Test.YtefkbmhkhpekjaaPBx25
import Derived.Test.YtefkbmhkhpekjaaPBx26
import Derived.Test.YtefkbmhkhpekjaaPBx32
import Derived.Test.YtefkbmhkhpekjaaPBx33
import Derived.Test.YtefkbmhkhpekjaaPBx55
import Derived.Test.YtefkbmhkhpekjaaPBx56
import Derived.Test.YtefkbmhkhpekjaaJFnExactTurnSeenx3
import Derived.Test.YtefkbmhkhpekjaaJFnExactTurnSeenx2
import Derived.Test.YtefkbmhkhpekjaaPBx80
namespace Go.Proofs.Ytefkbmhkhpekjaa.PB
open Go.RowKit Go.Proofs.YtefkbmhkhpekjaaW.PrintWords Go.Proofs.YtefkbmhkhpekjaaW.PrintLast Go.Proofs.YtefkbmhkhpekjaaW.PrintMore
attribute [local go_sem] max2_int min2_int max_two min_two max_three min_three max_four min_four   -- for this text's walks alone
open Go.Proofs.YtefkbmhkhpekjaaMine
set_option linter.unusedVariables false
set_option linter.unusedSimpArgs false

/-! ### laws_szIntS: function 108 -/
def laws_szIntS.f (l0 : List Int) (a1 : Int) : Option (Int) := if (wrap64 (a1 - (l0.length : Int))) < 0 then (some (-1)) else (some (wrap64 (a1 - (l0.length : Int))))
set_option maxHeartbeats 8000000 in
set_option maxRecDepth 100000 in
theorem laws_szIntS.calls (A0 : Option Addr) (c0 : Nat) (l0 : List Int) (a1 : Int) (r : Int) (w : World) (hr0 : Kd.C (Kd.int .i64) w A0 l0.length l0) (hc0 : l0.length ≤ c0) (h : laws_szIntS.f l0 a1 = some r) :
  Calls Try.prog 108 #[.slice A0 l0.length c0, .int .i64 a1] w fun e w' => e = .returned (.int .i64 r) ∧ Drawn0 w w' := by
 have HR0 := am_ hr0
 have HC0 := am_ hc0
 clear hr0 hc0
 have H : (if (wrap64 (a1 - (l0.length : Int))) < 0 then (some (-1)) else (some (wrap64 (a1 - (l0.length : Int))))) = some r := h
 clear h
 by_cases c3 : (wrap64 (a1 - (l0.length : Int))) < 0
 ·rw [if_pos c3] at H
  have c3b0 : decide ((wrap64 (a1 - (l0.length : Int))) < 0) = true := decide_eq_true c3
  clear c3
  obtain rfl := Option.some.inj H
  go_enter Try.func108, Try.ntmps108
  go_wp2
  go_ret
  exact ⟨by first | rfl | (simp; done) | (simp [*]; done), by repeat (first | exact Drawn0.refl _ | apply Drawn0.step)⟩
 ·rw [if_neg c3] at H
  have c3b0 : decide ((wrap64 (a1 - (l0.length : Int))) < 0) = false := decide_eq_false c3
  clear c3
  obtain rfl := Option.some.inj H
  go_enter Try.func108, Try.ntmps108
  go_wp2
  go_ret
  exact ⟨by first | rfl | (simp; done) | (simp [*]; done), by repeat (first | exact Drawn0.refl _ | apply Drawn0.step)⟩

end Go.Proofs.Ytefkbmhkhpekjaa.PB

namespace Go.Proofs.Ytefkbmhkhpekjaa.PB
open Go.RowKit Go.Proofs.YtefkbmhkhpekjaaW.PrintWords Go.Proofs.YtefkbmhkhpekjaaW.PrintLast Go.Proofs.YtefkbmhkhpekjaaW.PrintMore
attribute [local go_sem] max2_int min2_int max_two min_two max_three min_three max_four min_four   -- for this text's walks alone
open Go.Proofs.YtefkbmhkhpekjaaMine
set_option linter.unusedVariables false
set_option linter.unusedSimpArgs false

theorem z64_1 {p : Prop} (h : p := by first | rfl | (simp [errW_none, errW_some] <;> rfl) | (simp [*, errW_none, errW_some] <;> rfl)) : p := h
theorem z64_2 {p : Prop} (h : p := by repeat (first | (with_reducible first | exact HB.out | apply below_alloc | apply pw_below_drewN | apply below_drew1) | exact HB.out)) : p := h
theorem z64_3 {p : Prop} (h : p := by repeat (first | (with_reducible first | exact HB.out | apply below_alloc | apply pw_below_drewN | apply below_drew1 | refine below_set ?_ GE1248.out) | exact HB.out)) : p := h
/-! ### laws_szSeen: function 64 -/
def laws_szSeen.f (l0_0 : List Int) (l0_1 : List Int) (a1 : Int) : Option (Int) := (laws_szIntS.f l0_0 a1).bind fun t1249 => (if t1249 < 0 then (some (-1)) else ((laws_szIntS.f l0_1 t1249).bind fun t1250 => (if t1250 < 0 then (some (-1)) else (some t1250))))
set_option maxHeartbeats 8000000 in
set_option maxRecDepth 100000 in
theorem laws_szSeen.calls (A0_0 : Option Addr) (c0_0 : Nat) (l0_0 : List Int) (A0_1 : Option Addr) (c0_1 : Nat) (l0_1 : List Int) (a1 : Int) (r : Int) (w : World) (hr0_0 : Kd.C (Kd.int .i64) w A0_0 l0_0.length l0_0) (hc0_0 : l0_0.length ≤ c0_0) (hr0_1 : Kd.C (Kd.int .i64) w A0_1 l0_1.length l0_1) (hc0_1 : l0_1.length ≤ c0_1) (h : laws_szSeen.f l0_0 l0_1 a1 = some r) :
  Calls Try.prog 64 #[.agg #[.slice A0_0 l0_0.length c0_0, .slice A0_1 l0_1.length c0_1], .int .i64 a1] w fun e w' => e = .returned (.int .i64 r) ∧ Below w.heap.size w w' := by
 have hu68 := Try.underlying68
 have HR0_0 := am_ hr0_0
 have HC0_0 := am_ hc0_0
 clear hr0_0 hc0_0
 have HR0_1 := am_ hr0_1
 have HC0_1 := am_ hc0_1
 clear hr0_1 hc0_1
 have HB := am_ (Below.refl w.heap.size w)
 have H : ((laws_szIntS.f l0_0 a1).bind fun t1249 => (if t1249 < 0 then (some (-1)) else ((laws_szIntS.f l0_1 t1249).bind fun t1250 => (if t1250 < 0 then (some (-1)) else (some t1250))))) = some r := h
 clear h
 replace H := Option.bind_eq_some_iff.mp H
 obtain ⟨t1249, A30, H⟩ := H
 replace H : (if t1249 < 0 then (some (-1)) else ((laws_szIntS.f l0_1 t1249).bind fun t1250 => (if t1250 < 0 then (some (-1)) else (some t1250)))) = some r := H
 have A3 := am_ A30
 clear A30
 by_cases c4 : t1249 < 0
 ·rw [if_pos c4] at H
  have c4b0 : decide (t1249 < 0) = true := decide_eq_true c4
  clear c4
  obtain rfl := Option.some.inj H
  go_enter Try.func64, Try.ntmps64
  go_wp2_with (first | ((with_reducible refine gate_dst (N := 2) rfl ?_); refine box_event ?hg (N := 2) ?hd (cs := #[.slice A0_0 l0_0.length c0_0, .slice A0_1 l0_1.length c0_1]) (t := 68) ?hr ?_; (case hd => rfl); (case hg => rfl); (case hr => first | (go_simp; done) | (go_simp; rfl)); intro gb1248 hg w5 hbox hb; have n0_ := am_ (below_step z64_2 hb); have n1_ := am_ (hbox); have n2_ := am_ (by rw [hg]; exact (below_size z64_2) : w.heap.size ≤ gb1248); have n3_ := am_ (by rw [hg]; exact (below_size z64_2) : w.heap.size ≤ gb1248); clear HB; have HB := n0_; have BK1248 := n1_; have GW1248 := n2_; have GE1248 := n3_; clear n0_ n1_ n2_ n3_; clear hb hbox hg; have hcz6_0 : w5.cell? ⟨gb1248, 0, none⟩ = some (.slice A0_0 l0_0.length c0_0) := (blk_cell BK1248.out 0).trans rfl; have hcz6_1 : w5.cell? ⟨gb1248, 1, none⟩ = some (.slice A0_1 l0_1.length c0_1) := (blk_cell BK1248.out 1).trans rfl; have hfz6_0 := blk_frozen BK1248.out 0; have hfz6_1 := blk_frozen BK1248.out 1) | ((with_reducible refine gate_callee (f := 108) rfl ?_); refine goesL_ (some 8) rfl rfl Try.func108 (by kernel_rfl) rfl #[.slice A0_0 l0_0.length c0_0, .int .i64 a1] rfl (by (try simp only [List.map_toArray, List.map_cons, List.map_nil]); first | done | rfl | (simp only [List.length_drop, List.length_take]; rfl)) ?_; (with_reducible refine (laws_szIntS.calls _ _ l0_0 a1 t1249 _ ?side1 ?side2 A3.out).mono ?_); (case side1 => repeat (first | exact (Kd.C_below HR0_0.out HB.out) | (with_reducible refine Kd.C_alloc ?_ _) | (with_reducible refine Kd.C_drewN ?_ _) | (with_reducible refine Kd.C_drew ?_))); (case side2 => exact HC0_0.out); rintro e w' ⟨rfl, ⟨nd, rfl⟩⟩; refine ⟨_, rfl, ?_⟩))
  go_ret
  exact ⟨z64_1, z64_3⟩
 ·rw [if_neg c4] at H
  have c4b0 : decide (t1249 < 0) = false := decide_eq_false c4
  clear c4
  replace H := Option.bind_eq_some_iff.mp H
  obtain ⟨t1250, A70, H⟩ := H
  replace H : (if t1250 < 0 then (some (-1)) else (some t1250)) = some r := H
  have A7 := am_ A70
  clear A70
  by_cases c8 : t1250 < 0
  ·rw [if_pos c8] at H
   have c8b0 : decide (t1250 < 0) = true := decide_eq_true c8
   clear c8
   obtain rfl := Option.some.inj H
   go_enter Try.func64, Try.ntmps64
   go_wp2_with (first | ((with_reducible refine gate_dst (N := 2) rfl ?_); refine box_event ?hg (N := 2) ?hd (cs := #[.slice A0_0 l0_0.length c0_0, .slice A0_1 l0_1.length c0_1]) (t := 68) ?hr ?_; (case hd => rfl); (case hg => rfl); (case hr => first | (go_simp; done) | (go_simp; rfl)); intro gb1248 hg w9 hbox hb; have n0_ := am_ (below_step z64_2 hb); have n1_ := am_ (hbox); have n2_ := am_ (by rw [hg]; exact (below_size z64_2) : w.heap.size ≤ gb1248); have n3_ := am_ (by rw [hg]; exact (below_size z64_2) : w.heap.size ≤ gb1248); clear HB; have HB := n0_; have BK1248 := n1_; have GW1248 := n2_; have GE1248 := n3_; clear n0_ n1_ n2_ n3_; clear hb hbox hg; have hcz10_0 : w9.cell? ⟨gb1248, 0, none⟩ = some (.slice A0_0 l0_0.length c0_0) := (blk_cell BK1248.out 0).trans rfl; have hcz10_1 : w9.cell? ⟨gb1248, 1, none⟩ = some (.slice A0_1 l0_1.length c0_1) := (blk_cell BK1248.out 1).trans rfl; have hfz10_0 := blk_frozen BK1248.out 0; have hfz10_1 := blk_frozen BK1248.out 1) | ((with_reducible refine gate_callee (f := 108) rfl ?_); refine goesL_ (some 8) rfl rfl Try.func108 (by kernel_rfl) rfl #[.slice A0_0 l0_0.length c0_0, .int .i64 a1] rfl (by (try simp only [List.map_toArray, List.map_cons, List.map_nil]); first | done | rfl | (simp only [List.length_drop, List.length_take]; rfl)) ?_; (with_reducible refine (laws_szIntS.calls _ _ l0_0 a1 t1249 _ ?side1 ?side2 A3.out).mono ?_); (case side1 => repeat (first | exact (Kd.C_below HR0_0.out HB.out) | (with_reducible refine Kd.C_alloc ?_ _) | (with_reducible refine Kd.C_drewN ?_ _) | (with_reducible refine Kd.C_drew ?_))); (case side2 => exact HC0_0.out); rintro e w' ⟨rfl, ⟨nd, rfl⟩⟩; refine ⟨_, rfl, ?_⟩) | ((with_reducible refine gate_callee (f := 108) rfl ?_); refine goesL_ (some 14) rfl rfl Try.func108 (by kernel_rfl) rfl #[.slice A0_1 l0_1.length c0_1, .int .i64 t1249] rfl (by (try simp only [List.map_toArray, List.map_cons, List.map_nil]); first | done | rfl | (simp only [List.length_drop, List.length_take]; rfl)) ?_; (with_reducible refine (laws_szIntS.calls _ _ l0_1 t1249 t1250 _ ?side1 ?side2 A7.out).mono ?_); (case side1 => repeat (first | exact (Kd.C_below HR0_1.out z64_3) | (with_reducible refine Kd.C_alloc ?_ _) | (with_reducible refine Kd.C_drewN ?_ _) | (with_reducible refine Kd.C_drew ?_))); (case side2 => exact HC0_1.out); rintro e w' ⟨rfl, ⟨nd, rfl⟩⟩; refine ⟨_, rfl, ?_⟩))
   go_ret
   exact ⟨z64_1, z64_3⟩
  ·rw [if_neg c8] at H
   have c8b0 : decide (t1250 < 0) = false := decide_eq_false c8
   clear c8
   obtain rfl := Option.some.inj H
   go_enter Try.func64, Try.ntmps64
   go_wp2_with (first | ((with_reducible refine gate_dst (N := 2) rfl ?_); refine box_event ?hg (N := 2) ?hd (cs := #[.slice A0_0 l0_0.length c0_0, .slice A0_1 l0_1.length c0_1]) (t := 68) ?hr ?_; (case hd => rfl); (case hg => rfl); (case hr => first | (go_simp; done) | (go_simp; rfl)); intro gb1248 hg w11 hbox hb; have n0_ := am_ (below_step z64_2 hb); have n1_ := am_ (hbox); have n2_ := am_ (by rw [hg]; exact (below_size z64_2) : w.heap.size ≤ gb1248); have n3_ := am_ (by rw [hg]; exact (below_size z64_2) : w.heap.size ≤ gb1248); clear HB; have HB := n0_; have BK1248 := n1_; have GW1248 := n2_; have GE1248 := n3_; clear n0_ n1_ n2_ n3_; clear hb hbox hg; have hcz12_0 : w11.cell? ⟨gb1248, 0, none⟩ = some (.slice A0_0 l0_0.length c0_0) := (blk_cell BK1248.out 0).trans rfl; have hcz12_1 : w11.cell? ⟨gb1248, 1, none⟩ = some (.slice A0_1 l0_1.length c0_1) := (blk_cell BK1248.out 1).trans rfl; have hfz12_0 := blk_frozen BK1248.out 0; have hfz12_1 := blk_frozen BK1248.out 1) | ((with_reducible refine gate_callee (f := 108) rfl ?_); refine goesL_ (some 8) rfl rfl Try.func108 (by kernel_rfl) rfl #[.slice A0_0 l0_0.length c0_0, .int .i64 a1] rfl (by (try simp only [List.map_toArray, List.map_cons, List.map_nil]); first | done | rfl | (simp only [List.length_drop, List.length_take]; rfl)) ?_; (with_reducible refine (laws_szIntS.calls _ _ l0_0 a1 t1249 _ ?side1 ?side2 A3.out).mono ?_); (case side1 => repeat (first | exact (Kd.C_below HR0_0.out HB.out) | (with_reducible refine Kd.C_alloc ?_ _) | (with_reducible refine Kd.C_drewN ?_ _) | (with_reducible refine Kd.C_drew ?_))); (case side2 => exact HC0_0.out); rintro e w' ⟨rfl, ⟨nd, rfl⟩⟩; refine ⟨_, rfl, ?_⟩) | ((with_reducible refine gate_callee (f := 108) rfl ?_); refine goesL_ (some 14) rfl rfl Try.func108 (by kernel_rfl) rfl #[.slice A0_1 l0_1.length c0_1, .int .i64 t1249] rfl (by (try simp only [List.map_toArray, List.map_cons, List.map_nil]); first | done | rfl | (simp only [List.length_drop, List.length_take]; rfl)) ?_; (with_reducible refine (laws_szIntS.calls _ _ l0_1 t1249 t1250 _ ?side1 ?side2 A7.out).mono ?_); (case side1 => repeat (first | exact (Kd.C_below HR0_1.out z64_3) | (with_reducible refine Kd.C_alloc ?_ _) | (with_reducible refine Kd.C_drewN ?_ _) | (with_reducible refine Kd.C_drew ?_))); (case side2 => exact HC0_1.out); rintro e w' ⟨rfl, ⟨nd, rfl⟩⟩; refine ⟨_, rfl, ?_⟩))
   go_ret
   exact ⟨z64_1, z64_3⟩

end Go.Proofs.Ytefkbmhkhpekjaa.PB

namespace Go.Proofs.Ytefkbmhkhpekjaa.PB
open Go.RowKit Go.Proofs.YtefkbmhkhpekjaaW.PrintWords Go.Proofs.YtefkbmhkhpekjaaW.PrintLast Go.Proofs.YtefkbmhkhpekjaaW.PrintMore
attribute [local go_sem] max2_int min2_int max_two min_two max_three min_three max_four min_four   -- for this text's walks alone
open Go.Proofs.YtefkbmhkhpekjaaMine
set_option linter.unusedVariables false
set_option linter.unusedSimpArgs false

theorem z65_1 {p : Prop} (h : p := by repeat (first | (with_reducible first | exact HB.out | apply below_alloc | apply pw_below_drewN | apply below_drew1) | exact HB.out)) : p := h
theorem z65_2 {p : Prop} (h : p := by repeat (first | (with_reducible first | exact HB.out | apply below_alloc | apply pw_below_drewN | apply below_drew1 | refine below_set ?_ GE1251.out) | exact HB.out)) : p := h
theorem z65_3 {p : Prop} (h : p := by repeat (first | (with_reducible first | exact HB.out | apply below_alloc | apply pw_below_drewN | apply below_drew1 | refine below_set ?_ GE1251.out | refine below_set ?_ GE1252.out) | exact HB.out)) : p := h
theorem z65_4 {p : Prop} (h : p := by repeat (first | (with_reducible first | exact HB.out | apply below_alloc | apply pw_below_drewN | apply below_drew1 | refine below_set ?_ GE1251.out | refine below_set ?_ GE1252.out | refine below_set ?_ GE1253.out) | exact HB.out)) : p := h
/-! ### laws_toSeen: function 65 -/
def laws_toSeen.f (k : Nat) (l0_0 : List Int) (l0_1 : List Int) : Option (List Int × List Int) := (laws_toIntS.f k l0_0).bind fun t1254 => ((laws_toIntS.f k l0_1).bind fun t1257 => (some (t1254, t1257)))
set_option maxHeartbeats 8000000 in
set_option maxRecDepth 100000 in
theorem laws_toSeen.calls (k : Nat) (A0_0 : Option Addr) (c0_0 : Nat) (l0_0 : List Int) (A0_1 : Option Addr) (c0_1 : Nat) (l0_1 : List Int) (r1 : List Int) (r2 : List Int) (w : World) (hr0_0 : Kd.C (Kd.int .i64) w A0_0 l0_0.length l0_0) (hc0_0 : l0_0.length ≤ c0_0) (hr0_1 : Kd.C (Kd.int .i64) w A0_1 l0_1.length l0_1) (hc0_1 : l0_1.length ≤ c0_1) (h : laws_toSeen.f k l0_0 l0_1 = some (r1, r2)) :
  Calls Try.prog 65 #[.agg #[.slice A0_0 l0_0.length c0_0, .slice A0_1 l0_1.length c0_1]] w fun e w' => ∃ v0_ v1_ : Value, e = .returned (.agg #[v0_, v1_]) ∧ Kd.R (Kd.int .i64) 3 w' w.heap.size (fun k_ => some k_ ≠ (v1_ : Value).ownBlock) v0_ r1 ∧ Kd.R (Kd.int .i64) 3 w' w.heap.size (fun k_ => some k_ ≠ (v0_ : Value).ownBlock) v1_ r2 ∧ Below w.heap.size w w' := by
 have hu68 := Try.underlying68
 have hu24 := Try.underlying24
 have HR0_0 := am_ hr0_0
 have HC0_0 := am_ hc0_0
 clear hr0_0 hc0_0
 have HR0_1 := am_ hr0_1
 have HC0_1 := am_ hc0_1
 clear hr0_1 hc0_1
 have HB := am_ (Below.refl w.heap.size w)
 have H : ((laws_toIntS.f k l0_0).bind fun t1254 => ((laws_toIntS.f k l0_1).bind fun t1257 => (some (t1254, t1257)))) = some (r1, r2) := h
 clear h
 replace H := Option.bind_eq_some_iff.mp H
 obtain ⟨t1254, A20, H⟩ := H
 replace H : ((laws_toIntS.f k l0_1).bind fun t1257 => (some (t1254, t1257))) = some (r1, r2) := H
 have A2 := am_ A20
 clear A20
 replace H := Option.bind_eq_some_iff.mp H
 obtain ⟨t1257, A30, H⟩ := H
 replace H : (some (t1254, t1257)) = some (r1, r2) := H
 have A3 := am_ A30
 clear A30
 simp only [Option.some.injEq, Prod.mk.injEq] at H
 obtain ⟨rfl, rfl⟩ := H
 go_enter Try.func65, Try.ntmps65
 go_wp2_with (first | ((with_reducible refine gate_dst (N := 1) rfl ?_); refine box_event ?hg (N := 1) ?hd (cs := #[.slice A0_0 l0_0.length c0_0, .slice A0_1 l0_1.length c0_1]) (t := 68) ?hr ?_; (case hd => rfl); (case hg => rfl); (case hr => first | (go_simp; done) | (go_simp; rfl)); intro gb1251 hg w4 hbox hb; have n0_ := am_ (below_step z65_1 hb); have n1_ := am_ (hbox); have n2_ := am_ (by rw [hg]; exact (below_size z65_1) : w.heap.size ≤ gb1251); have n3_ := am_ (by rw [hg]; exact (below_size z65_1) : w.heap.size ≤ gb1251); clear HB; have HB := n0_; have BK1251 := n1_; have GW1251 := n2_; have GE1251 := n3_; clear n0_ n1_ n2_ n3_; clear hb hbox hg) | ((with_reducible refine gate_dst (N := 2) rfl ?_); refine box_event ?hg (N := 2) ?hd (cs := #[.slice none 0 0, .slice none 0 0]) (t := 24) ?hr ?_; (case hd => rfl); (case hg => rfl); (case hr => first | (go_simp; done) | (go_simp; rfl)); intro gb1252 hg w5 hbox hb; have n0_ := am_ (blk_below (bu BK1251.out) hb); have n1_ := am_ (below_step z65_2 hb); have n2_ := am_ (hbox); have n3_ := am_ (by rw [hg]; exact (below_size z65_2) : w.heap.size ≤ gb1252); have n4_ := am_ (by rw [hg]; exact (below_size z65_2) : w.heap.size ≤ gb1252); have n5_ := am_ (by rw [hg]; exact Nat.ne_of_lt (blk_lt (bu BK1251.out)) : gb1251 ≠ gb1252); have n6_ := am_ (by rw [hg]; exact Nat.ne_of_gt (blk_lt (bu BK1251.out)) : gb1252 ≠ gb1251); clear BK1251 HB; have BK1251 := n0_; have HB := n1_; have BK1252 := n2_; have GW1252 := n3_; have GE1252 := n4_; have NB1251_1252 := n5_; have NB1252_1251 := n6_; clear n0_ n1_ n2_ n3_ n4_ n5_ n6_; clear hb hbox hg) | ((with_reducible refine gate_dst (N := 3) rfl ?_); refine box_event ?hg (N := 3) ?hd (cs := #[.slice none 0 0, .slice none 0 0]) (t := 24) ?hr ?_; (case hd => rfl); (case hg => rfl); (case hr => first | (go_simp; done) | (go_simp; rfl)); intro gb1253 hg w6 hbox hb; have n0_ := am_ (blk_below (bu BK1251.out) hb); have n1_ := am_ (blk_below (bu BK1252.out) hb); have n2_ := am_ (below_step z65_3 hb); have n3_ := am_ (hbox); have n4_ := am_ (by rw [hg]; exact (below_size z65_3) : w.heap.size ≤ gb1253); have n5_ := am_ (by rw [hg]; exact (below_size z65_3) : w.heap.size ≤ gb1253); have n6_ := am_ (by rw [hg]; exact Nat.ne_of_lt (blk_lt (bu BK1251.out)) : gb1251 ≠ gb1253); have n7_ := am_ (by rw [hg]; exact Nat.ne_of_gt (blk_lt (bu BK1251.out)) : gb1253 ≠ gb1251); have n8_ := am_ (by rw [hg]; exact Nat.ne_of_lt (blk_lt (bu BK1252.out)) : gb1252 ≠ gb1253); have n9_ := am_ (by rw [hg]; exact Nat.ne_of_gt (blk_lt (bu BK1252.out)) : gb1253 ≠ gb1252); clear BK1251 BK1252 HB; have BK1251 := n0_; have BK1252 := n1_; have HB := n2_; have BK1253 := n3_; have GW1253 := n4_; have GE1253 := n5_; have NB1251_1253 := n6_; have NB1253_1251 := n7_; have NB1252_1253 := n8_; have NB1253_1252 := n9_; clear n0_ n1_ n2_ n3_ n4_ n5_ n6_ n7_ n8_ n9_; clear hb hbox hg; have hnb7 := NB1251_1252.out; have hnc7 := NB1252_1251.out; have hnb8 := NB1251_1253.out; have hnc8 := NB1253_1251.out; have hcz9_0 : w6.cell? ⟨gb1251, 0, none⟩ = some (.slice A0_0 l0_0.length c0_0) := (blk_cell BK1251.out 0).trans rfl; have hcz9_1 : w6.cell? ⟨gb1251, 1, none⟩ = some (.slice A0_1 l0_1.length c0_1) := (blk_cell BK1251.out 1).trans rfl; have hfz9_0 := blk_frozen BK1251.out 0; have hfz9_1 := blk_frozen BK1251.out 1) | ((with_reducible refine gate_callee (f := 54) rfl ?_); refine goesL_ (some 6) rfl rfl Try.func54 (by kernel_rfl) rfl #[.slice A0_0 l0_0.length c0_0] rfl (by (try simp only [List.map_toArray, List.map_cons, List.map_nil]); first | done | rfl | (simp only [List.length_drop, List.length_take]; rfl)) ?_; (with_reducible refine (laws_toIntS.calls k _ _ l0_0 t1254 _ ?side1 ?side2 A2.out).mono ?_); (case side1 => repeat (first | exact (Kd.C_below HR0_0.out HB.out) | (with_reducible refine Kd.C_alloc ?_ _) | (with_reducible refine Kd.C_drewN ?_ _) | (with_reducible refine Kd.C_drew ?_))); (case side2 => exact HC0_0.out); rintro e w10 ⟨v1255, rfl, ho0, hb⟩; refine ⟨_, rfl, ?_⟩; have n0_ := am_ (Kd.R_lower ho0 (below_size z65_4)); have n1_ := am_ (blk_below (bu BK1251.out) hb); have n2_ := am_ (blk_below (bu BK1252.out) hb); have n3_ := am_ (blk_below (bu BK1253.out) hb); have n4_ := am_ (below_step z65_4 hb); clear BK1251 BK1252 BK1253 HB; have HO1256 := n0_; have BK1251 := n1_; have BK1252 := n2_; have BK1253 := n3_; have HB := n4_; clear n0_ n1_ n2_ n3_ n4_; (try clear hb); (try clear hb2); (try clear hk); (try clear hi); (try clear ho0); obtain ⟨Ao11, co11, eo11⟩ := Kd.R_slice HO1256.out; subst eo11; have hnb12 := NB1253_1252.out; have hnc12 := NB1252_1253.out; have hcz13_0 : w10.cell? ⟨gb1253, 0, none⟩ = some (.slice none 0 0) := (blk_cell BK1253.out 0).trans rfl; have hcz13_1 : w10.cell? ⟨gb1253, 1, none⟩ = some (.slice none 0 0) := (blk_cell BK1253.out 1).trans rfl; have hfz13_0 := blk_frozen BK1253.out 0; have hfz13_1 := blk_frozen BK1253.out 1; have hcz14_0 : w10.cell? ⟨gb1251, 0, none⟩ = some (.slice A0_0 l0_0.length c0_0) := (blk_cell BK1251.out 0).trans rfl; have hcz14_1 : w10.cell? ⟨gb1251, 1, none⟩ = some (.slice A0_1 l0_1.length c0_1) := (blk_cell BK1251.out 1).trans rfl; have hfz14_0 := blk_frozen BK1251.out 0; have hfz14_1 := blk_frozen BK1251.out 1) | ((with_reducible refine gate_callee (f := 54) rfl ?_); refine goesL_ (some 10) rfl rfl Try.func54 (by kernel_rfl) rfl #[.slice A0_1 l0_1.length c0_1] rfl (by (try simp only [List.map_toArray, List.map_cons, List.map_nil]); first | done | rfl | (simp only [List.length_drop, List.length_take]; rfl)) ?_; (with_reducible refine (laws_toIntS.calls k _ _ l0_1 t1257 _ ?side1 ?side2 A3.out).mono ?_); (case side1 => exact Kd.C_below HR0_1.out z65_4); (case side2 => exact HC0_1.out); rintro e w15 ⟨v1258, rfl, ho0, hb⟩; refine ⟨_, rfl, ?_⟩; have n0_ := am_ (Kd.R_elder' (ru (Kd.R_mono (Kd.R_far (p := ⟨gb1253, 0, none⟩) (Kd.R_types HO1256.out BK1253.out (by decide)) (fun _ hk => hk.2) (.slice Ao11 t1254.length co11)) (fun _ h_ => h_.1))) (Kd.R_base ho0) hb); have n1_ := am_ (Kd.R_lower (Kd.R_new' ho0 (Kd.R_lt (ru (Kd.R_mono (Kd.R_far (p := ⟨gb1253, 0, none⟩) (Kd.R_types HO1256.out BK1253.out (by decide)) (fun _ hk => hk.2) (.slice Ao11 t1254.length co11)) (fun _ h_ => h_.1))))) (below_size z65_4)); have n2_ := am_ (blk_below (g := gb1251) (o := .cells #[.slice A0_0 l0_0.length c0_0, .slice A0_1 l0_1.length c0_1] 68 (0, 0)) (by (with_reducible repeat (first | refine blk_drewN ?_ _ | refine blk_drew ?_ | refine blk_alloc ?_ _)); refine blk_far ?_ NB1251_1253.out _; (with_reducible repeat (first | refine blk_drewN ?_ _ | refine blk_drew ?_ | refine blk_alloc ?_ _)); exact BK1251.out) hb); have n3_ := am_ (blk_below (g := gb1252) (o := .cells #[.slice none 0 0, .slice none 0 0] 24 (0, 0)) (by (with_reducible repeat (first | refine blk_drewN ?_ _ | refine blk_drew ?_ | refine blk_alloc ?_ _)); refine blk_far ?_ NB1252_1253.out _; (with_reducible repeat (first | refine blk_drewN ?_ _ | refine blk_drew ?_ | refine blk_alloc ?_ _)); exact BK1252.out) hb); have n4_ := am_ (blk_below (g := gb1253) (o := .cells #[.slice Ao11 t1254.length co11, .slice none 0 0] 24 (0, 0)) (by (with_reducible repeat (first | refine blk_drewN ?_ _ | refine blk_drew ?_ | refine blk_alloc ?_ _)); refine blk_put (cs := #[.slice none 0 0, .slice none 0 0]) ?_ 0 _ rfl; (with_reducible repeat (first | refine blk_drewN ?_ _ | refine blk_drew ?_ | refine blk_alloc ?_ _)); exact BK1253.out) hb); have n5_ := am_ (below_step z65_4 hb); clear HO1256 BK1251 BK1252 BK1253 HB; have HO1256 := n0_; have HO1259 := n1_; have BK1251 := n2_; have BK1252 := n3_; have BK1253 := n4_; have HB := n5_; clear n0_ n1_ n2_ n3_ n4_ n5_; (try clear hb); (try clear hb2); (try clear hk); (try clear hi); (try clear ho0); obtain ⟨Ao16, co16, eo16⟩ := Kd.R_slice HO1259.out; subst eo16; have hcz17_0 : w15.cell? ⟨gb1253, 0, none⟩ = some (.slice Ao11 t1254.length co11) := (blk_cell BK1253.out 0).trans rfl; have hcz17_1 : w15.cell? ⟨gb1253, 1, none⟩ = some (.slice none 0 0) := (blk_cell BK1253.out 1).trans rfl; have hfz17_0 := blk_frozen BK1253.out 0; have hfz17_1 := blk_frozen BK1253.out 1; have hcz18_0 : w15.cell? ⟨gb1252, 0, none⟩ = some (.slice none 0 0) := (blk_cell BK1252.out 0).trans rfl; have hcz18_1 : w15.cell? ⟨gb1252, 1, none⟩ = some (.slice none 0 0) := (blk_cell BK1252.out 1).trans rfl; have hfz18_0 := blk_frozen BK1252.out 0; have hfz18_1 := blk_frozen BK1252.out 1))
 refine bodyPost_ret (results_cell_row rfl _ _ gb1252 24 #[.slice Ao11 t1254.length co11, .slice Ao16 t1257.length co16] (0, 0) _ rfl (by (with_reducible repeat (first | refine blk_drewN ?_ _ | refine blk_drew ?_ | refine blk_alloc ?_ _)); refine blk_put (cs := #[.slice Ao11 t1254.length co11, .slice none 0 0]) ?_ 1 _ rfl; (with_reducible repeat (first | refine blk_drewN ?_ _ | refine blk_drew ?_ | refine blk_alloc ?_ _)); refine blk_put (cs := #[.slice none 0 0, .slice none 0 0]) ?_ 0 _ rfl; (with_reducible repeat (first | refine blk_drewN ?_ _ | refine blk_drew ?_ | refine blk_alloc ?_ _)); refine blk_far ?_ NB1252_1253.out _; (with_reducible repeat (first | refine blk_drewN ?_ _ | refine blk_drew ?_ | refine blk_alloc ?_ _)); exact BK1252.out) Try.underlying24 rfl (by kernel_rfl)) rfl ?_
 exact ⟨_, _, by first | rfl | (simp [errW_none, errW_some] <;> rfl) | (simp [*, errW_none, errW_some] <;> rfl), ru (Kd.R_mono (Kd.R_far (p := ⟨gb1252, 1, none⟩) (Kd.R_far (p := ⟨gb1252, 0, none⟩) (Kd.R_far (p := ⟨gb1253, 1, none⟩) (Kd.R_types (Kd.R_types HO1256.out BK1253.out (by decide)) BK1252.out (by decide)) (fun _ hk => hk.1.2) (.slice Ao16 t1257.length co16)) (fun _ hk => hk.2) (.slice Ao11 t1254.length co11)) (fun _ hk => hk.2) (.slice Ao16 t1257.length co16)) (fun _ hk => hk.1.1.2)), ru (Kd.R_mono (Kd.R_far (p := ⟨gb1252, 1, none⟩) (Kd.R_far (p := ⟨gb1252, 0, none⟩) (Kd.R_far (p := ⟨gb1253, 1, none⟩) (Kd.R_types (Kd.R_types HO1259.out BK1253.out (by decide)) BK1252.out (by decide)) (fun _ hk => hk.1.2) (.slice Ao16 t1257.length co16)) (fun _ hk => hk.2) (.slice Ao11 t1254.length co11)) (fun _ hk => hk.2) (.slice Ao16 t1257.length co16)) (fun _ hk => hk.1.1.2)), z65_4⟩

end Go.Proofs.Ytefkbmhkhpekjaa.PB

namespace Go.Proofs.Ytefkbmhkhpekjaa.PB
open Go.RowKit Go.Proofs.YtefkbmhkhpekjaaW.PrintWords Go.Proofs.YtefkbmhkhpekjaaW.PrintLast Go.Proofs.YtefkbmhkhpekjaaW.PrintMore
attribute [local go_sem] max2_int min2_int max_two min_two max_three min_three max_four min_four   -- for this text's walks alone
open Go.Proofs.YtefkbmhkhpekjaaMine
set_option linter.unusedVariables false
set_option linter.unusedSimpArgs false

theorem z21_1 {p : Prop} (h : p := by show _ ≠ gq; exact hne) : p := h
/-! ### laws_FnExactTurnSeen: function 21 -/
def laws_FnExactTurnSeen.T10 : Bool × List (List Nat × List Nat) := (true, [([], []), ([0], [0]), ([], []), ([2, 1], [2]), ([], []), ([4, 3], [4]), ([1, 3, 5, 5], [1, 3, 5]), ([6], [6]), ([7], [7]), ([7], [7]), ([], []), ([10, 8, 6, 0, 1, 2, 3, 4, 5, 6, 7, 8, 10], [8, 10]), ([9, 11, 0, 1, 2, 3, 4, 5, 6, 7, 8, 9, 10, 11], [9])])
def laws_FnExactTurnSeen.B10 : List Nat := [0, 1, 0, 7, 0, 31, 63, 127, 255, 255, 0, 1535, 4095]
theorem laws_FnExactTurnSeen.tab10 : rtab .any (opsOf Try.f21 10) = laws_FnExactTurnSeen.T10 := by kernel_rfl
theorem laws_FnExactTurnSeen.bits10 : waitsOk laws_FnExactTurnSeen.T10.2 laws_FnExactTurnSeen.B10 = true := by kernel_rfl
def laws_FnExactTurnSeen.T37 : Bool × List (List Nat × List Nat) := (true, [([], []), ([0], [0]), ([], []), ([2, 1], [2]), ([], []), ([4, 3], [4]), ([1, 3, 5, 5], [1, 3, 5]), ([6], [6]), ([7], [7]), ([7], [7]), ([], []), ([10, 8, 6, 0, 1, 2, 3, 4, 5, 6, 7, 8, 10], [8, 10]), ([9, 11, 0, 1, 2, 3, 4, 5, 6, 7, 8, 9, 10, 11], [9])])
def laws_FnExactTurnSeen.B37 : List Nat := [0, 1, 0, 7, 0, 31, 63, 127, 255, 255, 0, 1535, 4095]
theorem laws_FnExactTurnSeen.tab37 : rtab .any (opsOf Try.f21 37) = laws_FnExactTurnSeen.T37 := by kernel_rfl
theorem laws_FnExactTurnSeen.bits37 : waitsOk laws_FnExactTurnSeen.T37.2 laws_FnExactTurnSeen.B37 = true := by kernel_rfl
def laws_FnExactTurnSeen.T17 : Bool × List (List Nat × List Nat) := (true, [([], []), ([], []), ([1], [1]), ([0, 2, 2], [0, 2]), ([3], [3])])
def laws_FnExactTurnSeen.B17 : List Nat := [0, 0, 2, 7, 15]
theorem laws_FnExactTurnSeen.tab17 : rtab .any (opsOf Try.f21 17) = laws_FnExactTurnSeen.T17 := by kernel_rfl
theorem laws_FnExactTurnSeen.bits17 : waitsOk laws_FnExactTurnSeen.T17.2 laws_FnExactTurnSeen.B17 = true := by kernel_rfl
def laws_FnExactTurnSeen.T19 : Bool × List (List Nat × List Nat) := (true, [([], []), ([], []), ([1], [1]), ([0, 2, 2], [0, 2]), ([3], [3])])
def laws_FnExactTurnSeen.B19 : List Nat := [0, 0, 2, 7, 15]
theorem laws_FnExactTurnSeen.tab19 : rtab .any (opsOf Try.f21 19) = laws_FnExactTurnSeen.T19 := by kernel_rfl
theorem laws_FnExactTurnSeen.bits19 : waitsOk laws_FnExactTurnSeen.T19.2 laws_FnExactTurnSeen.B19 = true := by kernel_rfl
def laws_FnExactTurnSeen.Facts (k : Nat) (l : List (List S130)) (sr sl rw : List Int) (p p1 : List (List S85)) (wr wl sr1 sl1 r2 w2 w3 : List Int) (told : Bool) (left left2 k1 k2 k3 m : Int) : Prop := laws_szProg.f k l 1048576 = some left ∧ (left < 0 ∨ laws_szSeen.f sr sl left = some left2 ∧ (left2 < 0 ∨ laws_toProg.f k l = some p ∧ laws_toSeen.f k sr sl = some (sr, sl) ∧ laws_toIntS.f k rw = some rw ∧ spec_TurnSeen.f k p sr sl rw = some (wr, wl, told) ∧ impl_TurnSeen.f k p sr sl rw = some (wr, wl, told) ∧ laws_eqSeen.f k wr wl wr wl = some true ∧ laws_eqProg.f k p p = some true ∧ laws_eqSeen.f k sr sl sr sl = some true ∧ laws_eqIntS.f k rw rw = some true ∧ laws_markDoSS.f k p 1 = some (k1, p1) ∧ laws_markSeen.f k sr sl k1 = some (k2, sr1, sl1) ∧ laws_markIntS.f k rw k2 = some (k3, r2) ∧ 0 ≤ k3 ∧ laws_markSeen.f k wr wl 1 = some (m, w2, w3) ∧ 0 ≤ m ∧ laws_heldSeen.f k w2 w3 1 = some m))
set_option maxRecDepth 100000 in
set_option maxHeartbeats 8000000 in
theorem laws_FnExactTurnSeen.calls (k : Nat) (A0 : Option Addr) (c0 : Nat) (l : List (List S130)) (A1 : Option Addr) (c1 : Nat) (sr : List Int) (A2 : Option Addr) (c2 : Nat) (sl : List Int) (A3 : Option Addr) (c3 : Nat) (rw : List Int) (w : World) (p p1 : List (List S85)) (wr wl sr1 sl1 r2 w2 w3 : List Int) (told : Bool) (left left2 k1 k2 k3 m : Int) (hr0 : Kd.C (Kd.slice 130 k130) w A0 l.length l) (hc0 : l.length ≤ c0) (hr1 : Kd.C (Kd.int .i64) w A1 sr.length sr) (hc1 : sr.length ≤ c1) (hr2 : Kd.C (Kd.int .i64) w A2 sl.length sl) (hc2 : sl.length ≤ c2) (hr3 : Kd.C (Kd.int .i64) w A3 rw.length rw) (hc3 : rw.length ≤ c3) (h : (rw.length : Int) > 1048576 ∨ laws_FnExactTurnSeen.Facts k l sr sl rw p p1 wr wl sr1 sl1 r2 w2 w3 told left left2 k1 k2 k3 m) :
  Calls Try.prog 21 #[.agg #[.slice A0 l.length c0], .agg #[.slice A1 sr.length c1, .slice A2 sl.length c2], .slice A3 rw.length c3] w fun e w' => e = .returned (.bool true) ∧ Below w.heap.size w w' := by
 have CL := am_ hr0
 have LL := am_ hc0
 have CM := am_ hr1
 have LM := am_ hc1
 have CN := am_ hr2
 have LN := am_ hc2
 have CR := am_ hr3
 have LR := am_ hc3
 have FF := am_ h
 clear hr0 hc0 hr1 hc1 hr2 hc2 hr3 hc3 h
 have hx0 := blk_alloc (heap_alloc_new w (Obj.cells #[Value.slice A0 l.length c0] 52)) (Obj.cells #[Value.slice A1 sr.length c1, Value.slice A2 sl.length c2] 68)
 have hx1 := heap_alloc_new (w.alloc (Obj.cells #[Value.slice A0 l.length c0] 52)) (Obj.cells #[Value.slice A1 sr.length c1, Value.slice A2 sl.length c2] 68)
 rw [World.size_alloc] at hx1
 have BL0a := am_ hx0
 have BL1a := am_ hx1
 have HBa := am_ (below_alloc (below_alloc (Below.refl w.heap.size w) (Obj.cells #[Value.slice A0 l.length c0] 52)) (Obj.cells #[Value.slice A1 sr.length c1, Value.slice A2 sl.length c2] 68))
 clear hx0 hx1
 by_cases hl : (rw.length : Int) > 1048576
 ·have hlb : decide (1048576 < (rw.length : Int)) = true := decide_eq_true hl
  clear FF
  go_enter Try.func21, Try.ntmps21
  go_wp2_with fail
  refine bodyPost_ret (results_tmp rfl _ _ _) rfl ?_
  exact ⟨rfl, HBa.out⟩
 have hlb : decide (1048576 < (rw.length : Int)) = false := decide_eq_false hl
 have h := FF.out.resolve_left hl
 clear FF hl
 unfold laws_FnExactTurnSeen.Facts at h
 obtain ⟨h1, h2⟩ := h
 have F1 := am_ h1
 have FF := am_ h2
 clear h1 h2
 go_enter Try.func21, Try.ntmps21
 go_wp2_with (go_at_call 44; refine park ?_)
 clear hlb
 refine ⟨?_⟩
 refine (laws_szProg.calls k _ _ l 1048576 left _ (Kd.C_below CL.out HBa.out) LL.out F1.out).mono ?_
 rintro e W1 ⟨rfl, hb⟩
 have BL0_0 := am_ (blk_below BL0a.out hb)
 have BL1_0 := am_ (blk_below BL1a.out hb)
 have HB_0 := am_ (below_then HBa.out HBa.out.size hb)
 clear hb HBa BL0a BL1a
 by_cases hlt : left < 0
 ·have hlb := decide_eq_true hlt
  clear FF
  go_wp2_with fail
  refine bodyPost_ret (results_tmp rfl _ _ _) rfl ?_
  exact ⟨rfl, HB_0.out⟩
 have hlb := decide_eq_false hlt
 obtain ⟨h1, h2⟩ := FF.out.resolve_left hlt
 clear FF hlt
 have F2 := am_ h1
 have FF := am_ h2
 clear h1 h2
 have hl0 : W1.cell? ⟨w.heap.size + 1, 0, none⟩ = some (.slice A1 sr.length c1) := (blk_cell BL1_0.out 0).trans rfl
 have hl1 : W1.cell? ⟨w.heap.size + 1, 1, none⟩ = some (.slice A2 sl.length c2) := (blk_cell BL1_0.out 1).trans rfl
 go_wp2_with (go_at_call 64; refine park ?_)
 clear hl0 hl1
 refine ⟨?_⟩
 have QW1 := am_ (show w.heap.size ≤ W1.heap.size from HB_0.out.size)
 clear hlb
 refine (laws_szSeen.calls _ _ sr _ _ sl left left2 _ (Kd.C_below CM.out HB_0.out) LM.out (Kd.C_below CN.out HB_0.out) LN.out F2.out).mono ?_
 rintro e W2 ⟨rfl, hb⟩
 have BL0_1 := am_ (blk_below BL0_0.out hb)
 have BL1_1 := am_ (blk_below BL1_0.out hb)
 have HB_1 := am_ (below_then HB_0.out HB_0.out.size hb)
 clear BL0_0 BL1_0 HB_0 hb
 by_cases hlt : left2 < 0
 ·have hlb := decide_eq_true hlt
  clear FF
  go_wp2_with fail
  refine bodyPost_ret (results_tmp rfl _ _ _) rfl ?_
  exact ⟨rfl, HB_1.out⟩
 have hlb := decide_eq_false hlt
 obtain ⟨f_to, f_tos, f_toi, f_sp, f_im, f_eqw, f_eqp, f_eqs, f_eqi, f_mk, f_mks, f_mki, f_k3, f_mkw, f_m0, f_held⟩ := FF.out.resolve_left hlt
 have Gto := am_ f_to
 have Gtos := am_ f_tos
 have Gtoi := am_ f_toi
 have Gsp := am_ f_sp
 have Gim := am_ f_im
 have Geqw := am_ f_eqw
 have Geqp := am_ f_eqp
 have Geqs := am_ f_eqs
 have Geqi := am_ f_eqi
 have Gmk := am_ f_mk
 have Gmks := am_ f_mks
 have Gmki := am_ f_mki
 have Gk3 := am_ f_k3
 have Gmkw := am_ f_mkw
 have Gm0 := am_ f_m0
 have Gheld := am_ f_held
 clear FF f_to f_tos f_toi f_sp f_im f_eqw f_eqp f_eqs f_eqi f_mk f_mks f_mki f_k3 f_mkw f_m0 f_held
 have LT1 := am_ (show w.heap.size + 1 < W2.heap.size from blk_lt BL1_1.out)
 have QW2 := am_ (show w.heap.size ≤ W2.heap.size from HB_1.out.size)
 have htt : (told != told) = false := by cases told <;> rfl
 go_wp2_with fail
 have hb := below_drew (Below.refl W2.heap.size W2)
 have BL0_2 := am_ (blk_below BL0_1.out hb)
 have BL1_2 := am_ (blk_below BL1_1.out hb)
 have HB_2 := am_ (below_then HB_1.out HB_1.out.size hb)
 clear BL0_1 BL1_1 HB_1 hb
 refine start_ (n := 13) (S := fun w' => w'.cell? ⟨w.heap.size, 0, none⟩ = some (.slice A0 l.length c0) ∧ w'.cell? ⟨w.heap.size + 1, 0, none⟩ = some (.slice A1 sr.length c1) ∧ w'.cell? ⟨w.heap.size + 1, 1, none⟩ = some (.slice A2 sl.length c2)) (ds := []) #[false, false, false, false, false, false, false, false, false, false, false, false, false] (by kernel_rfl) rfl rfl ⟨(blk_cell BL0_2.out 0).trans rfl, (blk_cell BL1_2.out 0).trans rfl, (blk_cell BL1_2.out 1).trans rfl⟩ (fun hHeld => ?_)
 refine with_tabW laws_FnExactTurnSeen.tab10 laws_FnExactTurnSeen.bits10 (fun HT_ HW_ => ?_)
 generalize W2.drew = V0 at *
 have QV0 := am_ (show w.heap.size ≤ V0.heap.size from HB_2.out.size)
 have NL0V0 := am_ (show w.heap.size < V0.heap.size from blk_lt BL0_2.out)
 have NL1V0 := am_ (show w.heap.size + 1 < V0.heap.size from blk_lt BL1_2.out)
 refine take_ (i := 0) (N := some 34) (v := ?_) (a' := ?_) #[true, false, false, false, false, false, false, false, false, false, false, false, false] rfl rfl (take_ofW HT_.out HW_.out (by kernel_rfl)) (fun _ _ _ h => h) (Or.inl ⟨by rfl, ?_⟩) hHeld ?_ ?_
 rotate_left
 ·intro w' s0
  have s1 := s0.1
  go_simp
  with_reducible rfl
 rotate_left
 ·simp only [Act.put, List.setIfInBounds_toArray, List.set_cons_zero, List.set_cons_succ, i64_w, i32_w]
  rfl
 refine take_ (i := 2) (N := some 36) (v := ?_) (a' := ?_) #[true, false, true, false, false, false, false, false, false, false, false, false, false] rfl rfl (take_ofW HT_.out HW_.out (by kernel_rfl)) (fun _ _ _ h => h) (Or.inl ⟨by rfl, ?_⟩) hHeld ?_ ?_
 rotate_left
 ·intro w' s0
  have s1 := s0.2.1
  have s2 := s0.2.2
  go_simp
  with_reducible rfl
 rotate_left
 ·simp only [Act.put, List.setIfInBounds_toArray, List.set_cons_zero, List.set_cons_succ, i64_w, i32_w]
  rfl
 refine pure_ (i := 4) (N := some 38) (v := ?_) (a' := ?_) #[true, false, true, false, true, false, false, false, false, false, false, false, false] rfl rfl (any_of HT_.out (by kernel_rfl)) (fun _ _ _ h => h) (Or.inl ⟨by rfl, ?_⟩) ?_ ?_
 rotate_left
 ·intro w'
  go_simp
  with_reducible rfl
 rotate_left
 ·simp only [Act.put, List.setIfInBounds_toArray, List.set_cons_zero, List.set_cons_succ, i64_w, i32_w]
  rfl
 refine join_ (σ := Value × Value × Value × Value × Value × Value × Nat) 2 #[true, true, true, true, true, true, true, true, true, true, true, false, false] (fun s_ => [(35, .agg #[s_.1]), (37, .agg #[s_.2.1, s_.2.2.1]), (39, s_.2.2.2.1), (40, .tuple #[.agg #[s_.2.2.2.2.1, s_.2.2.2.2.2.1], .bool told]), (33, .tuple #[.agg #[s_.2.2.2.2.1, s_.2.2.2.2.2.1], .bool told]), (41, .agg #[s_.2.2.2.2.1, s_.2.2.2.2.2.1]), (42, .bool told), (8, .pointer (some ⟨s_.2.2.2.2.2.2, 0, none⟩))]) (fun s_ w' => (w'.cell? ⟨w.heap.size, 0, none⟩ = some (.slice A0 l.length c0) ∧ w'.cell? ⟨w.heap.size + 1, 0, none⟩ = some (.slice A1 sr.length c1) ∧ w'.cell? ⟨w.heap.size + 1, 1, none⟩ = some (.slice A2 sl.length c2)) ∧ w'.heap[w.heap.size]? = some (Obj.cells #[Value.slice A0 l.length c0] 52) ∧ w'.heap[w.heap.size + 1]? = some (Obj.cells #[Value.slice A1 sr.length c1, Value.slice A2 sl.length c2] 68) ∧ w'.heap[s_.2.2.2.2.2.2]? = some (Obj.cells #[Value.slice none 0 0, Value.slice none 0 0] 24) ∧ Kd.R (Kd.int .i64) 3 w' w.heap.size (fun j => V0.heap.size ≤ j ∧ j < w'.heap.size ∧ j ≠ s_.2.2.2.2.2.2 ∧ some j = (s_.2.2.2.2.1 : Value).ownBlock) s_.2.2.2.2.1 wr ∧ Kd.R (Kd.int .i64) 3 w' w.heap.size (fun j => V0.heap.size ≤ j ∧ j < w'.heap.size ∧ j ≠ s_.2.2.2.2.2.2 ∧ some j = (s_.2.2.2.2.2.1 : Value).ownBlock) s_.2.2.2.2.2.1 wl ∧ (∀ j, some j = (s_.2.2.2.2.1 : Value).ownBlock → some j ≠ (s_.2.2.2.2.2.1 : Value).ownBlock) ∧ Below w.heap.size w w' ∧ V0.heap.size ≤ s_.2.2.2.2.2.2 ∧ s_.2.2.2.2.2.2 < w'.heap.size) ?_ ?_
 rotate_left
 ·intro hCont
  refine two_ (i := 1) (j := 10) (Ni := some 35) (Nj := some 8) #[true, true, true, false, true, false, false, false, false, false, false, false, false] #[true, false, true, false, true, false, false, false, false, false, true, false, false] rfl rfl rfl rfl (two_of HT_.out (by kernel_rfl)) (by decide) (by decide) (fun K hK => ?_) (fun K hK => ?_)
  ·refine goes_ Try.func45 (by kernel_rfl) rfl #[.agg #[.slice A0 l.length c0]] (by rfl) rfl rfl (by (try simp only [List.map_toArray, List.map_cons, List.map_nil]); first | done | rfl) ?_
   with_reducible refine (laws_toProg.calls k _ _ l p _ (Kd.C_below CL.out HB_2.out) LL.out Gto.out).mono ?_
   rintro e V0n1 ⟨va, rfl, hS, hb⟩
   refine ⟨_, rfl, ?_⟩
   obtain ⟨Aa, ca, rfl⟩ := Kd.S_slice hS
   have BL0_3 := am_ (blk_below BL0_2.out hb)
   have BL1_3 := am_ (blk_below BL1_2.out hb)
   have HB_3 := am_ (below_then HB_2.out HB_2.out.size hb)
   clear BL0_2 BL1_2 HB_2
   have Ra_n := am_ hS
   clear hS
   have VV_v4 := am_ (show V0.heap.size ≤ V0n1.heap.size from hb.size)
   clear hb
   refine hK.out _ _ ⟨(blk_cell BL0_3.out 0).trans rfl, (blk_cell BL1_3.out 0).trans rfl, (blk_cell BL1_3.out 1).trans rfl⟩ (fun hHeld => ?_)
   clear hK K
   refine norm_ (a' := ?_) ?_ ?_
   rotate_left
   ·show Act.put _ (some 35) _ = _
    simp only [Act.put, List.setIfInBounds_toArray, List.set_cons_zero, List.set_cons_succ, i64_w, i32_w]
    rfl
   refine two_ (i := 3) (j := 10) (Ni := some 37) (Nj := some 8) #[true, true, true, true, true, false, false, false, false, false, false, false, false] #[true, true, true, false, true, false, false, false, false, false, true, false, false] rfl rfl rfl rfl (two_of HT_.out (by kernel_rfl)) (by decide) (by decide) (fun K hK => ?_) (fun K hK => ?_)
   ·refine goes_ Try.func65 (by kernel_rfl) rfl #[.agg #[.slice A1 sr.length c1, .slice A2 sl.length c2]] (by rfl) rfl rfl (by (try simp only [List.map_toArray, List.map_cons, List.map_nil]); first | done | rfl) ?_
    with_reducible refine (laws_toSeen.calls k _ _ sr _ _ sl sr sl _ (Kd.C_below CM.out HB_3.out) LM.out (Kd.C_below CN.out HB_3.out) LN.out Gtos.out).mono ?_
    rintro e V0n2 ⟨vb, vc, rfl, hS, hT, hb⟩
    refine ⟨_, rfl, ?_⟩
    obtain ⟨Ab, cb, rfl⟩ := Kd.R_slice hS
    obtain ⟨Ac, cc, rfl⟩ := Kd.R_slice hT
    have Ra_5 := am_ (Kd.S_below Ra_n.out hb)
    have BL0_5 := am_ (blk_below BL0_3.out hb)
    have BL1_5 := am_ (blk_below BL1_3.out hb)
    have HB_5 := am_ (below_then HB_3.out HB_3.out.size hb)
    clear Ra_n BL0_3 BL1_3 HB_3
    have Rb_n := am_ hS
    have Rc_n := am_ hT
    clear hS hT
    have VV_v6 := am_ (show V0.heap.size ≤ V0n2.heap.size from Nat.le_trans VV_v4.out hb.size)
    clear hb
    refine hK.out _ _ ⟨(blk_cell BL0_5.out 0).trans rfl, (blk_cell BL1_5.out 0).trans rfl, (blk_cell BL1_5.out 1).trans rfl⟩ (fun hHeld => ?_)
    clear hK K
    refine norm_ (a' := ?_) ?_ ?_
    rotate_left
    ·show Act.put _ (some 37) _ = _
     simp only [Act.put, List.setIfInBounds_toArray, List.set_cons_zero, List.set_cons_succ, i64_w, i32_w]
     rfl
    refine two_ (i := 5) (j := 10) (Ni := some 39) (Nj := some 8) #[true, true, true, true, true, true, false, false, false, false, false, false, false] #[true, true, true, true, true, false, false, false, false, false, true, false, false] rfl rfl rfl rfl (two_of HT_.out (by kernel_rfl)) (by decide) (by decide) (fun K hK => ?_) (fun K hK => ?_)
    ·refine goes_ Try.func54 (by kernel_rfl) rfl #[.slice A3 rw.length c3] (by rfl) rfl rfl (by (try simp only [List.map_toArray, List.map_cons, List.map_nil]); first | done | rfl) ?_
     with_reducible refine (laws_toIntS.calls k _ _ rw rw _ (Kd.C_below CR.out HB_5.out) LR.out Gtoi.out).mono ?_
     rintro e V0n3 ⟨vd, rfl, hS, hb⟩
     refine ⟨_, rfl, ?_⟩
     obtain ⟨Ad, cd, rfl⟩ := Kd.R_slice hS
     have Ra_7 := am_ (Kd.S_below Ra_5.out hb)
     have Rb_7 := am_ (Kd.R_below Rb_n.out hb)
     have Rc_7 := am_ (Kd.R_below Rc_n.out hb)
     have BL0_7 := am_ (blk_below BL0_5.out hb)
     have BL1_7 := am_ (blk_below BL1_5.out hb)
     have HB_7 := am_ (below_then HB_5.out HB_5.out.size hb)
     clear Ra_5 Rb_n Rc_n BL0_5 BL1_5 HB_5
     have Rd_n := am_ hS
     clear hS
     have VV_v8 := am_ (show V0.heap.size ≤ V0n3.heap.size from Nat.le_trans VV_v6.out hb.size)
     clear hb
     refine hK.out _ _ ⟨(blk_cell BL0_7.out 0).trans rfl, (blk_cell BL1_7.out 0).trans rfl, (blk_cell BL1_7.out 1).trans rfl⟩ (fun hHeld => ?_)
     clear hK K
     refine norm_ (a' := ?_) ?_ ?_
     rotate_left
     ·show Act.put _ (some 39) _ = _
      simp only [Act.put, List.setIfInBounds_toArray, List.set_cons_zero, List.set_cons_succ, i64_w, i32_w]
      rfl
     refine two_ (i := 6) (j := 10) (Ni := some 40) (Nj := some 8) #[true, true, true, true, true, true, true, false, false, false, false, false, false] #[true, true, true, true, true, true, false, false, false, false, true, false, false] rfl rfl rfl rfl (two_of HT_.out (by kernel_rfl)) (by decide) (by decide) (fun K hK => ?_) (fun K hK => ?_)
     ·refine goes_ Try.func60 (by kernel_rfl) rfl #[.agg #[.slice Aa p.length ca], .agg #[.slice Ab sr.length cb, .slice Ac sl.length cc], .slice Ad rw.length cd] (by rfl) rfl rfl (by (try simp only [List.map_toArray, List.map_cons, List.map_nil]); first | done | rfl) ?_
      with_reducible refine (spec_TurnSeen.calls k _ _ p _ _ sr _ _ sl _ _ rw wr wl told _ (Kd.S_reads' Ra_7.out).2.2 (Kd.S_reads' Ra_7.out).2.1 (Kd.R_reads' Rb_7.out).2.2 (Kd.R_reads' Rb_7.out).2.1 (Kd.R_reads' Rc_7.out).2.2 (Kd.R_reads' Rc_7.out).2.1 (Kd.R_reads' Rd_n.out).2.2 (Kd.R_reads' Rd_n.out).2.1 Gsp.out).mono ?_
      rintro e V0n4 ⟨ve, vf, rfl, hS, hT, hb⟩
      refine ⟨_, rfl, ?_⟩
      obtain ⟨Ae, ce, rfl⟩ := Kd.R_slice hS
      obtain ⟨Af, cf, rfl⟩ := Kd.R_slice hT
      have hle : w.heap.size ≤ V0n3.heap.size := HB_7.out.size
      have hvv : V0.heap.size ≤ V0n3.heap.size := VV_v8.out
      have BL0_9 := am_ (blk_below BL0_7.out hb)
      have BL1_9 := am_ (blk_below BL1_7.out hb)
      have HB_9 := am_ (below_then HB_7.out HB_7.out.size hb)
      clear BL0_7 BL1_7 HB_7
      have hap := am_ (show ∀ j, some j = (Value.slice Ae wr.length ce).ownBlock → some j ≠ (Value.slice Af wl.length cf).ownBlock from fun j hj => hS.1 j hj.symm)
      have Re_n := am_ (Kd.R_lower (Kd.R_mono (ok' := fun j => V0.heap.size ≤ j ∧ j < V0n4.heap.size ∧ some j = (Value.slice Ae wr.length ce).ownBlock) (Kd.R_bound (Kd.R_tight rfl hS)) (fun j hj => ⟨Nat.le_trans hvv hj.2.1, hj.2.2.1, hj.1⟩)) hle)
      have Rf_n := am_ (Kd.R_lower (Kd.R_mono (ok' := fun j => V0.heap.size ≤ j ∧ j < V0n4.heap.size ∧ some j = (Value.slice Af wl.length cf).ownBlock) (Kd.R_bound (Kd.R_tight rfl hT)) (fun j hj => ⟨Nat.le_trans hvv hj.2.1, hj.2.2.1, hj.1⟩)) hle)
      clear hS hT hle hvv
      have VV_v10 := am_ (show V0.heap.size ≤ V0n4.heap.size from Nat.le_trans VV_v8.out hb.size)
      clear hb
      refine hK.out _ _ ⟨(blk_cell BL0_9.out 0).trans rfl, (blk_cell BL1_9.out 0).trans rfl, (blk_cell BL1_9.out 1).trans rfl⟩ (fun hHeld => ?_)
      clear hK K
      refine norm_ (a' := ?_) ?_ ?_
      rotate_left
      ·show Act.put _ (some 40) _ = _
       simp only [Act.put, List.setIfInBounds_toArray, List.set_cons_zero, List.set_cons_succ, i64_w, i32_w]
       rfl
      refine pure_ (i := 7) (N := some 33) (v := ?_) (a' := ?_) #[true, true, true, true, true, true, true, true, false, false, false, false, false] rfl rfl (any_of HT_.out (by kernel_rfl)) (fun _ _ _ h => h) (Or.inl ⟨by rfl, ?_⟩) ?_ ?_
      rotate_left
      ·intro w'
       go_simp
       with_reducible rfl
      rotate_left
      ·simp only [Act.put, List.setIfInBounds_toArray, List.set_cons_zero, List.set_cons_succ, i64_w, i32_w]
       rfl
      refine pure_ (i := 8) (N := some 41) (v := ?_) (a' := ?_) #[true, true, true, true, true, true, true, true, true, false, false, false, false] rfl rfl (any_of HT_.out (by kernel_rfl)) (fun _ _ _ h => h) (Or.inl ⟨by rfl, ?_⟩) ?_ ?_
      rotate_left
      ·intro w'
       go_simp
       with_reducible rfl
      rotate_left
      ·simp only [Act.put, List.setIfInBounds_toArray, List.set_cons_zero, List.set_cons_succ, i64_w, i32_w]
       rfl
      refine pure_ (i := 9) (N := some 42) (v := ?_) (a' := ?_) #[true, true, true, true, true, true, true, true, true, true, false, false, false] rfl rfl (any_of HT_.out (by kernel_rfl)) (fun _ _ _ h => h) (Or.inl ⟨by rfl, ?_⟩) ?_ ?_
      rotate_left
      ·intro w'
       go_simp
       with_reducible rfl
      rotate_left
      ·simp only [Act.put, List.setIfInBounds_toArray, List.set_cons_zero, List.set_cons_succ, i64_w, i32_w]
       rfl
      refine one_ (i := 10) (N := some 8) #[true, true, true, true, true, true, true, true, true, true, true, false, false] rfl rfl (one_of HT_.out (by kernel_rfl)) (by decide) (fun K hK => ?_)
      refine box_step (by rfl) (N := 8) rfl (cs := #[Value.slice none 0 0, Value.slice none 0 0]) (t := 24) ?hr ?_
      case hr => first | (go_simp; done) | (go_simp; rfl)
      intro gx hgx V0n5 hbx hb
      have GX := am_ (show V0.heap.size ≤ gx from by rw [hgx]; exact VV_v10.out)
      have hrce := Kd.R_mono (ok' := fun j => V0.heap.size ≤ j ∧ j < V0n5.heap.size ∧ j ≠ gx ∧ some j = (Value.slice Ae wr.length ce).ownBlock) Re_n.out (fun j hj => ⟨hj.1, by have := hj.2.1; have := hb.size; omega, by have := hj.2.1; omega, hj.2.2⟩)
      have hrcf := Kd.R_mono (ok' := fun j => V0.heap.size ≤ j ∧ j < V0n5.heap.size ∧ j ≠ gx ∧ some j = (Value.slice Af wl.length cf).ownBlock) Rf_n.out (fun j hj => ⟨hj.1, by have := hj.2.1; have := hb.size; omega, by have := hj.2.1; omega, hj.2.2⟩)
      have BL0_11 := am_ (blk_below BL0_9.out hb)
      have BL1_11 := am_ (blk_below BL1_9.out hb)
      have HB_11 := am_ (below_then HB_9.out HB_9.out.size hb)
      clear BL0_9 BL1_9 HB_9
      have BX_n := am_ hbx
      have Re_m := am_ (Kd.R_below hrce hb)
      have Rf_m := am_ (Kd.R_below hrcf hb)
      clear hrce hrcf Re_n Rf_n
      have GL_n := am_ (show gx < V0n5.heap.size from blk_lt hbx)
      clear hbx hgx
      have VV_v12 := am_ (show V0.heap.size ≤ V0n5.heap.size from Nat.le_trans VV_v10.out hb.size)
      clear hb
      refine hK.out _ _ ⟨(blk_cell BL0_11.out 0).trans rfl, (blk_cell BL1_11.out 0).trans rfl, (blk_cell BL1_11.out 1).trans rfl⟩ (fun hHeld => ?_)
      clear hK K
      refine norm_ (a' := ?_) ?_ ?_
      rotate_left
      ·show Act.put _ (some 8) _ = _
       simp only [Act.put, List.setIfInBounds_toArray, List.set_cons_zero, List.set_cons_succ, i64_w, i32_w]
       rfl
      have zz := hCont (.slice Aa p.length ca, .slice Ab sr.length cb, .slice Ac sl.length cc, .slice Ad rw.length cd, .slice Ae wr.length ce, .slice Af wl.length cf, gx) _ ⟨⟨(blk_cell BL0_11.out 0).trans rfl, (blk_cell BL1_11.out 0).trans rfl, (blk_cell BL1_11.out 1).trans rfl⟩, BL0_11.out, BL1_11.out, BX_n.out, Re_m.out, Rf_m.out, hap.out, HB_11.out, GX.out, GL_n.out⟩
      simp only [putAll, Act.put, List.setIfInBounds_toArray, List.set_cons_zero, List.set_cons_succ] at zz
      exact zz
     ·refine box_step (by rfl) (N := 8) rfl (cs := #[Value.slice none 0 0, Value.slice none 0 0]) (t := 24) ?hr ?_
      case hr => first | (go_simp; done) | (go_simp; rfl)
      intro gx hgx V0n6 hbx hb
      have GX := am_ (show V0.heap.size ≤ gx from by rw [hgx]; exact VV_v8.out)
      have Ra_9 := am_ (Kd.S_below Ra_7.out hb)
      have Rb_9 := am_ (Kd.R_below Rb_7.out hb)
      have Rc_9 := am_ (Kd.R_below Rc_7.out hb)
      have Rd_9 := am_ (Kd.R_below Rd_n.out hb)
      have BL0_9 := am_ (blk_below BL0_7.out hb)
      have BL1_9 := am_ (blk_below BL1_7.out hb)
      have HB_9 := am_ (below_then HB_7.out HB_7.out.size hb)
      clear Ra_7 Rb_7 Rc_7 Rd_n BL0_7 BL1_7 HB_7
      have BX_n := am_ hbx
      have GL_n := am_ (show gx < V0n6.heap.size from blk_lt hbx)
      clear hbx hgx
      have VV_v10 := am_ (show V0.heap.size ≤ V0n6.heap.size from Nat.le_trans VV_v8.out hb.size)
      clear hb
      refine hK.out _ _ ⟨(blk_cell BL0_9.out 0).trans rfl, (blk_cell BL1_9.out 0).trans rfl, (blk_cell BL1_9.out 1).trans rfl⟩ (fun hHeld => ?_)
      clear hK K
      refine norm_ (a' := ?_) ?_ ?_
      rotate_left
      ·show Act.put _ (some 8) _ = _
       simp only [Act.put, List.setIfInBounds_toArray, List.set_cons_zero, List.set_cons_succ, i64_w, i32_w]
       rfl
      refine one_ (i := 6) (N := some 40) #[true, true, true, true, true, true, true, false, false, false, true, false, false] rfl rfl (one_of HT_.out (by kernel_rfl)) (by decide) (fun K hK => ?_)
      refine goes_ Try.func60 (by kernel_rfl) rfl #[.agg #[.slice Aa p.length ca], .agg #[.slice Ab sr.length cb, .slice Ac sl.length cc], .slice Ad rw.length cd] (by rfl) rfl rfl (by (try simp only [List.map_toArray, List.map_cons, List.map_nil]); first | done | rfl) ?_
      with_reducible refine (spec_TurnSeen.calls k _ _ p _ _ sr _ _ sl _ _ rw wr wl told _ (Kd.S_reads' Ra_9.out).2.2 (Kd.S_reads' Ra_9.out).2.1 (Kd.R_reads' Rb_9.out).2.2 (Kd.R_reads' Rb_9.out).2.1 (Kd.R_reads' Rc_9.out).2.2 (Kd.R_reads' Rc_9.out).2.1 (Kd.R_reads' Rd_9.out).2.2 (Kd.R_reads' Rd_9.out).2.1 Gsp.out).mono ?_
      rintro e V0n7 ⟨ve, vf, rfl, hS, hT, hb⟩
      refine ⟨_, rfl, ?_⟩
      obtain ⟨Ae, ce, rfl⟩ := Kd.R_slice hS
      obtain ⟨Af, cf, rfl⟩ := Kd.R_slice hT
      have hle : w.heap.size ≤ V0n6.heap.size := HB_9.out.size
      have hvv : V0.heap.size ≤ V0n6.heap.size := VV_v10.out
      have BL0_11 := am_ (blk_below BL0_9.out hb)
      have BL1_11 := am_ (blk_below BL1_9.out hb)
      have BX_11 := am_ (blk_below BX_n.out hb)
      have HB_11 := am_ (below_then HB_9.out HB_9.out.size hb)
      clear BL0_9 BL1_9 BX_n HB_9
      have hap := am_ (show ∀ j, some j = (Value.slice Ae wr.length ce).ownBlock → some j ≠ (Value.slice Af wl.length cf).ownBlock from fun j hj => hS.1 j hj.symm)
      have hgl := GL_n.out
      have Re_n := am_ (Kd.R_lower (Kd.R_mono (ok' := fun j => V0.heap.size ≤ j ∧ j < V0n7.heap.size ∧ j ≠ gx ∧ some j = (Value.slice Ae wr.length ce).ownBlock) (Kd.R_bound (Kd.R_tight rfl hS)) (fun j hj => ⟨Nat.le_trans hvv hj.2.1, hj.2.2.1, by have := hj.2.1; omega, hj.1⟩)) hle)
      have Rf_n := am_ (Kd.R_lower (Kd.R_mono (ok' := fun j => V0.heap.size ≤ j ∧ j < V0n7.heap.size ∧ j ≠ gx ∧ some j = (Value.slice Af wl.length cf).ownBlock) (Kd.R_bound (Kd.R_tight rfl hT)) (fun j hj => ⟨Nat.le_trans hvv hj.2.1, hj.2.2.1, by have := hj.2.1; omega, hj.1⟩)) hle)
      clear hS hT hle hvv hgl
      have VV_v12 := am_ (show V0.heap.size ≤ V0n7.heap.size from Nat.le_trans VV_v10.out hb.size)
      have GL_v12 := am_ (show gx < V0n7.heap.size from blk_lt BX_11.out)
      clear hb
      refine hK.out _ _ ⟨(blk_cell BL0_11.out 0).trans rfl, (blk_cell BL1_11.out 0).trans rfl, (blk_cell BL1_11.out 1).trans rfl⟩ (fun hHeld => ?_)
      clear hK K
      refine norm_ (a' := ?_) ?_ ?_
      rotate_left
      ·show Act.put _ (some 40) _ = _
       simp only [Act.put, List.setIfInBounds_toArray, List.set_cons_zero, List.set_cons_succ, i64_w, i32_w]
       rfl
      refine pure_ (i := 7) (N := some 33) (v := ?_) (a' := ?_) #[true, true, true, true, true, true, true, true, false, false, true, false, false] rfl rfl (any_of HT_.out (by kernel_rfl)) (fun _ _ _ h => h) (Or.inl ⟨by rfl, ?_⟩) ?_ ?_
      rotate_left
      ·intro w'
       go_simp
       with_reducible rfl
      rotate_left
      ·simp only [Act.put, List.setIfInBounds_toArray, List.set_cons_zero, List.set_cons_succ, i64_w, i32_w]
       rfl
      refine pure_ (i := 8) (N := some 41) (v := ?_) (a' := ?_) #[true, true, true, true, true, true, true, true, true, false, true, false, false] rfl rfl (any_of HT_.out (by kernel_rfl)) (fun _ _ _ h => h) (Or.inl ⟨by rfl, ?_⟩) ?_ ?_
      rotate_left
      ·intro w'
       go_simp
       with_reducible rfl
      rotate_left
      ·simp only [Act.put, List.setIfInBounds_toArray, List.set_cons_zero, List.set_cons_succ, i64_w, i32_w]
       rfl
      refine pure_ (i := 9) (N := some 42) (v := ?_) (a' := ?_) #[true, true, true, true, true, true, true, true, true, true, true, false, false] rfl rfl (any_of HT_.out (by kernel_rfl)) (fun _ _ _ h => h) (Or.inl ⟨by rfl, ?_⟩) ?_ ?_
      rotate_left
      ·intro w'
       go_simp
       with_reducible rfl
      rotate_left
      ·simp only [Act.put, List.setIfInBounds_toArray, List.set_cons_zero, List.set_cons_succ, i64_w, i32_w]
       rfl
      have zz := hCont (.slice Aa p.length ca, .slice Ab sr.length cb, .slice Ac sl.length cc, .slice Ad rw.length cd, .slice Ae wr.length ce, .slice Af wl.length cf, gx) _ ⟨⟨(blk_cell BL0_11.out 0).trans rfl, (blk_cell BL1_11.out 0).trans rfl, (blk_cell BL1_11.out 1).trans rfl⟩, BL0_11.out, BL1_11.out, BX_11.out, Re_n.out, Rf_n.out, hap.out, HB_11.out, GX.out, GL_v12.out⟩
      simp only [putAll, Act.put, List.setIfInBounds_toArray, List.set_cons_zero, List.set_cons_succ] at zz
      exact zz
    ·refine box_step (by rfl) (N := 8) rfl (cs := #[Value.slice none 0 0, Value.slice none 0 0]) (t := 24) ?hr ?_
     case hr => first | (go_simp; done) | (go_simp; rfl)
     intro gx hgx V0n8 hbx hb
     have GX := am_ (show V0.heap.size ≤ gx from by rw [hgx]; exact VV_v6.out)
     have Ra_7 := am_ (Kd.S_below Ra_5.out hb)
     have Rb_7 := am_ (Kd.R_below Rb_n.out hb)
     have Rc_7 := am_ (Kd.R_below Rc_n.out hb)
     have BL0_7 := am_ (blk_below BL0_5.out hb)
     have BL1_7 := am_ (blk_below BL1_5.out hb)
     have HB_7 := am_ (below_then HB_5.out HB_5.out.size hb)
     clear Ra_5 Rb_n Rc_n BL0_5 BL1_5 HB_5
     have BX_n := am_ hbx
     have GL_n := am_ (show gx < V0n8.heap.size from blk_lt hbx)
     clear hbx hgx
     have VV_v8 := am_ (show V0.heap.size ≤ V0n8.heap.size from Nat.le_trans VV_v6.out hb.size)
     clear hb
     refine hK.out _ _ ⟨(blk_cell BL0_7.out 0).trans rfl, (blk_cell BL1_7.out 0).trans rfl, (blk_cell BL1_7.out 1).trans rfl⟩ (fun hHeld => ?_)
     clear hK K
     refine norm_ (a' := ?_) ?_ ?_
     rotate_left
     ·show Act.put _ (some 8) _ = _
      simp only [Act.put, List.setIfInBounds_toArray, List.set_cons_zero, List.set_cons_succ, i64_w, i32_w]
      rfl
     refine one_ (i := 5) (N := some 39) #[true, true, true, true, true, true, false, false, false, false, true, false, false] rfl rfl (one_of HT_.out (by kernel_rfl)) (by decide) (fun K hK => ?_)
     refine goes_ Try.func54 (by kernel_rfl) rfl #[.slice A3 rw.length c3] (by rfl) rfl rfl (by (try simp only [List.map_toArray, List.map_cons, List.map_nil]); first | done | rfl) ?_
     with_reducible refine (laws_toIntS.calls k _ _ rw rw _ (Kd.C_below CR.out HB_7.out) LR.out Gtoi.out).mono ?_
     rintro e V0n9 ⟨vd, rfl, hS, hb⟩
     refine ⟨_, rfl, ?_⟩
     obtain ⟨Ad, cd, rfl⟩ := Kd.R_slice hS
     have Ra_9 := am_ (Kd.S_below Ra_7.out hb)
     have Rb_9 := am_ (Kd.R_below Rb_7.out hb)
     have Rc_9 := am_ (Kd.R_below Rc_7.out hb)
     have BL0_9 := am_ (blk_below BL0_7.out hb)
     have BL1_9 := am_ (blk_below BL1_7.out hb)
     have BX_9 := am_ (blk_below BX_n.out hb)
     have HB_9 := am_ (below_then HB_7.out HB_7.out.size hb)
     clear Ra_7 Rb_7 Rc_7 BL0_7 BL1_7 BX_n HB_7
     have Rd_n := am_ hS
     clear hS
     have VV_v10 := am_ (show V0.heap.size ≤ V0n9.heap.size from Nat.le_trans VV_v8.out hb.size)
     have GL_v10 := am_ (show gx < V0n9.heap.size from blk_lt BX_9.out)
     clear hb
     refine hK.out _ _ ⟨(blk_cell BL0_9.out 0).trans rfl, (blk_cell BL1_9.out 0).trans rfl, (blk_cell BL1_9.out 1).trans rfl⟩ (fun hHeld => ?_)
     clear hK K
     refine norm_ (a' := ?_) ?_ ?_
     rotate_left
     ·show Act.put _ (some 39) _ = _
      simp only [Act.put, List.setIfInBounds_toArray, List.set_cons_zero, List.set_cons_succ, i64_w, i32_w]
      rfl
     refine one_ (i := 6) (N := some 40) #[true, true, true, true, true, true, true, false, false, false, true, false, false] rfl rfl (one_of HT_.out (by kernel_rfl)) (by decide) (fun K hK => ?_)
     refine goes_ Try.func60 (by kernel_rfl) rfl #[.agg #[.slice Aa p.length ca], .agg #[.slice Ab sr.length cb, .slice Ac sl.length cc], .slice Ad rw.length cd] (by rfl) rfl rfl (by (try simp only [List.map_toArray, List.map_cons, List.map_nil]); first | done | rfl) ?_
     with_reducible refine (spec_TurnSeen.calls k _ _ p _ _ sr _ _ sl _ _ rw wr wl told _ (Kd.S_reads' Ra_9.out).2.2 (Kd.S_reads' Ra_9.out).2.1 (Kd.R_reads' Rb_9.out).2.2 (Kd.R_reads' Rb_9.out).2.1 (Kd.R_reads' Rc_9.out).2.2 (Kd.R_reads' Rc_9.out).2.1 (Kd.R_reads' Rd_n.out).2.2 (Kd.R_reads' Rd_n.out).2.1 Gsp.out).mono ?_
     rintro e V0n10 ⟨ve, vf, rfl, hS, hT, hb⟩
     refine ⟨_, rfl, ?_⟩
     obtain ⟨Ae, ce, rfl⟩ := Kd.R_slice hS
     obtain ⟨Af, cf, rfl⟩ := Kd.R_slice hT
     have hle : w.heap.size ≤ V0n9.heap.size := HB_9.out.size
     have hvv : V0.heap.size ≤ V0n9.heap.size := VV_v10.out
     have BL0_11 := am_ (blk_below BL0_9.out hb)
     have BL1_11 := am_ (blk_below BL1_9.out hb)
     have BX_11 := am_ (blk_below BX_9.out hb)
     have HB_11 := am_ (below_then HB_9.out HB_9.out.size hb)
     clear BL0_9 BL1_9 BX_9 HB_9
     have hap := am_ (show ∀ j, some j = (Value.slice Ae wr.length ce).ownBlock → some j ≠ (Value.slice Af wl.length cf).ownBlock from fun j hj => hS.1 j hj.symm)
     have hgl := GL_v10.out
     have Re_n := am_ (Kd.R_lower (Kd.R_mono (ok' := fun j => V0.heap.size ≤ j ∧ j < V0n10.heap.size ∧ j ≠ gx ∧ some j = (Value.slice Ae wr.length ce).ownBlock) (Kd.R_bound (Kd.R_tight rfl hS)) (fun j hj => ⟨Nat.le_trans hvv hj.2.1, hj.2.2.1, by have := hj.2.1; omega, hj.1⟩)) hle)
     have Rf_n := am_ (Kd.R_lower (Kd.R_mono (ok' := fun j => V0.heap.size ≤ j ∧ j < V0n10.heap.size ∧ j ≠ gx ∧ some j = (Value.slice Af wl.length cf).ownBlock) (Kd.R_bound (Kd.R_tight rfl hT)) (fun j hj => ⟨Nat.le_trans hvv hj.2.1, hj.2.2.1, by have := hj.2.1; omega, hj.1⟩)) hle)
     clear hS hT hle hvv hgl
     have VV_v12 := am_ (show V0.heap.size ≤ V0n10.heap.size from Nat.le_trans VV_v10.out hb.size)
     have GL_v12 := am_ (show gx < V0n10.heap.size from blk_lt BX_11.out)
     clear hb
     refine hK.out _ _ ⟨(blk_cell BL0_11.out 0).trans rfl, (blk_cell BL1_11.out 0).trans rfl, (blk_cell BL1_11.out 1).trans rfl⟩ (fun hHeld => ?_)
     clear hK K
     refine norm_ (a' := ?_) ?_ ?_
     rotate_left
     ·show Act.put _ (some 40) _ = _
      simp only [Act.put, List.setIfInBounds_toArray, List.set_cons_zero, List.set_cons_succ, i64_w, i32_w]
      rfl
     refine pure_ (i := 7) (N := some 33) (v := ?_) (a' := ?_) #[true, true, true, true, true, true, true, true, false, false, true, false, false] rfl rfl (any_of HT_.out (by kernel_rfl)) (fun _ _ _ h => h) (Or.inl ⟨by rfl, ?_⟩) ?_ ?_
     rotate_left
     ·intro w'
      go_simp
      with_reducible rfl
     rotate_left
     ·simp only [Act.put, List.setIfInBounds_toArray, List.set_cons_zero, List.set_cons_succ, i64_w, i32_w]
      rfl
     refine pure_ (i := 8) (N := some 41) (v := ?_) (a' := ?_) #[true, true, true, true, true, true, true, true, true, false, true, false, false] rfl rfl (any_of HT_.out (by kernel_rfl)) (fun _ _ _ h => h) (Or.inl ⟨by rfl, ?_⟩) ?_ ?_
     rotate_left
     ·intro w'
      go_simp
      with_reducible rfl
     rotate_left
     ·simp only [Act.put, List.setIfInBounds_toArray, List.set_cons_zero, List.set_cons_succ, i64_w, i32_w]
      rfl
     refine pure_ (i := 9) (N := some 42) (v := ?_) (a' := ?_) #[true, true, true, true, true, true, true, true, true, true, true, false, false] rfl rfl (any_of HT_.out (by kernel_rfl)) (fun _ _ _ h => h) (Or.inl ⟨by rfl, ?_⟩) ?_ ?_
     rotate_left
     ·intro w'
      go_simp
      with_reducible rfl
     rotate_left
     ·simp only [Act.put, List.setIfInBounds_toArray, List.set_cons_zero, List.set_cons_succ, i64_w, i32_w]
      rfl
     have zz := hCont (.slice Aa p.length ca, .slice Ab sr.length cb, .slice Ac sl.length cc, .slice Ad rw.length cd, .slice Ae wr.length ce, .slice Af wl.length cf, gx) _ ⟨⟨(blk_cell BL0_11.out 0).trans rfl, (blk_cell BL1_11.out 0).trans rfl, (blk_cell BL1_11.out 1).trans rfl⟩, BL0_11.out, BL1_11.out, BX_11.out, Re_n.out, Rf_n.out, hap.out, HB_11.out, GX.out, GL_v12.out⟩
     simp only [putAll, Act.put, List.setIfInBounds_toArray, List.set_cons_zero, List.set_cons_succ] at zz
     exact zz
   ·refine box_step (by rfl) (N := 8) rfl (cs := #[Value.slice none 0 0, Value.slice none 0 0]) (t := 24) ?hr ?_
    case hr => first | (go_simp; done) | (go_simp; rfl)
    intro gx hgx V0n11 hbx hb
    have GX := am_ (show V0.heap.size ≤ gx from by rw [hgx]; exact VV_v4.out)
    have Ra_5 := am_ (Kd.S_below Ra_n.out hb)
    have BL0_5 := am_ (blk_below BL0_3.out hb)
    have BL1_5 := am_ (blk_below BL1_3.out hb)
    have HB_5 := am_ (below_then HB_3.out HB_3.out.size hb)
    clear Ra_n BL0_3 BL1_3 HB_3
    have BX_n := am_ hbx
    have GL_n := am_ (show gx < V0n11.heap.size from blk_lt hbx)
    clear hbx hgx
    have VV_v6 := am_ (show V0.heap.size ≤ V0n11.heap.size from Nat.le_trans VV_v4.out hb.size)
    clear hb
    refine hK.out _ _ ⟨(blk_cell BL0_5.out 0).trans rfl, (blk_cell BL1_5.out 0).trans rfl, (blk_cell BL1_5.out 1).trans rfl⟩ (fun hHeld => ?_)
    clear hK K
    refine norm_ (a' := ?_) ?_ ?_
    rotate_left
    ·show Act.put _ (some 8) _ = _
     simp only [Act.put, List.setIfInBounds_toArray, List.set_cons_zero, List.set_cons_succ, i64_w, i32_w]
     rfl
    refine one_ (i := 3) (N := some 37) #[true, true, true, true, true, false, false, false, false, false, true, false, false] rfl rfl (one_of HT_.out (by kernel_rfl)) (by decide) (fun K hK => ?_)
    refine goes_ Try.func65 (by kernel_rfl) rfl #[.agg #[.slice A1 sr.length c1, .slice A2 sl.length c2]] (by rfl) rfl rfl (by (try simp only [List.map_toArray, List.map_cons, List.map_nil]); first | done | rfl) ?_
    with_reducible refine (laws_toSeen.calls k _ _ sr _ _ sl sr sl _ (Kd.C_below CM.out HB_5.out) LM.out (Kd.C_below CN.out HB_5.out) LN.out Gtos.out).mono ?_
    rintro e V0n12 ⟨vb, vc, rfl, hS, hT, hb⟩
    refine ⟨_, rfl, ?_⟩
    obtain ⟨Ab, cb, rfl⟩ := Kd.R_slice hS
    obtain ⟨Ac, cc, rfl⟩ := Kd.R_slice hT
    have Ra_7 := am_ (Kd.S_below Ra_5.out hb)
    have BL0_7 := am_ (blk_below BL0_5.out hb)
    have BL1_7 := am_ (blk_below BL1_5.out hb)
    have BX_7 := am_ (blk_below BX_n.out hb)
    have HB_7 := am_ (below_then HB_5.out HB_5.out.size hb)
    clear Ra_5 BL0_5 BL1_5 BX_n HB_5
    have Rb_n := am_ hS
    have Rc_n := am_ hT
    clear hS hT
    have VV_v8 := am_ (show V0.heap.size ≤ V0n12.heap.size from Nat.le_trans VV_v6.out hb.size)
    have GL_v8 := am_ (show gx < V0n12.heap.size from blk_lt BX_7.out)
    clear hb
    refine hK.out _ _ ⟨(blk_cell BL0_7.out 0).trans rfl, (blk_cell BL1_7.out 0).trans rfl, (blk_cell BL1_7.out 1).trans rfl⟩ (fun hHeld => ?_)
    clear hK K
    refine norm_ (a' := ?_) ?_ ?_
    rotate_left
    ·show Act.put _ (some 37) _ = _
     simp only [Act.put, List.setIfInBounds_toArray, List.set_cons_zero, List.set_cons_succ, i64_w, i32_w]
     rfl
    refine one_ (i := 5) (N := some 39) #[true, true, true, true, true, true, false, false, false, false, true, false, false] rfl rfl (one_of HT_.out (by kernel_rfl)) (by decide) (fun K hK => ?_)
    refine goes_ Try.func54 (by kernel_rfl) rfl #[.slice A3 rw.length c3] (by rfl) rfl rfl (by (try simp only [List.map_toArray, List.map_cons, List.map_nil]); first | done | rfl) ?_
    with_reducible refine (laws_toIntS.calls k _ _ rw rw _ (Kd.C_below CR.out HB_7.out) LR.out Gtoi.out).mono ?_
    rintro e V0n13 ⟨vd, rfl, hS, hb⟩
    refine ⟨_, rfl, ?_⟩
    obtain ⟨Ad, cd, rfl⟩ := Kd.R_slice hS
    have Ra_9 := am_ (Kd.S_below Ra_7.out hb)
    have Rb_9 := am_ (Kd.R_below Rb_n.out hb)
    have Rc_9 := am_ (Kd.R_below Rc_n.out hb)
    have BL0_9 := am_ (blk_below BL0_7.out hb)
    have BL1_9 := am_ (blk_below BL1_7.out hb)
    have BX_9 := am_ (blk_below BX_7.out hb)
    have HB_9 := am_ (below_then HB_7.out HB_7.out.size hb)
    clear Ra_7 Rb_n Rc_n BL0_7 BL1_7 BX_7 HB_7
    have Rd_n := am_ hS
    clear hS
    have VV_v10 := am_ (show V0.heap.size ≤ V0n13.heap.size from Nat.le_trans VV_v8.out hb.size)
    have GL_v10 := am_ (show gx < V0n13.heap.size from blk_lt BX_9.out)
    clear hb
    refine hK.out _ _ ⟨(blk_cell BL0_9.out 0).trans rfl, (blk_cell BL1_9.out 0).trans rfl, (blk_cell BL1_9.out 1).trans rfl⟩ (fun hHeld => ?_)
    clear hK K
    refine norm_ (a' := ?_) ?_ ?_
    rotate_left
    ·show Act.put _ (some 39) _ = _
     simp only [Act.put, List.setIfInBounds_toArray, List.set_cons_zero, List.set_cons_succ, i64_w, i32_w]
     rfl
    refine one_ (i := 6) (N := some 40) #[true, true, true, true, true, true, true, false, false, false, true, false, false] rfl rfl (one_of HT_.out (by kernel_rfl)) (by decide) (fun K hK => ?_)
    refine goes_ Try.func60 (by kernel_rfl) rfl #[.agg #[.slice Aa p.length ca], .agg #[.slice Ab sr.length cb, .slice Ac sl.length cc], .slice Ad rw.length cd] (by rfl) rfl rfl (by (try simp only [List.map_toArray, List.map_cons, List.map_nil]); first | done | rfl) ?_
    with_reducible refine (spec_TurnSeen.calls k _ _ p _ _ sr _ _ sl _ _ rw wr wl told _ (Kd.S_reads' Ra_9.out).2.2 (Kd.S_reads' Ra_9.out).2.1 (Kd.R_reads' Rb_9.out).2.2 (Kd.R_reads' Rb_9.out).2.1 (Kd.R_reads' Rc_9.out).2.2 (Kd.R_reads' Rc_9.out).2.1 (Kd.R_reads' Rd_n.out).2.2 (Kd.R_reads' Rd_n.out).2.1 Gsp.out).mono ?_
    rintro e V0n14 ⟨ve, vf, rfl, hS, hT, hb⟩
    refine ⟨_, rfl, ?_⟩
    obtain ⟨Ae, ce, rfl⟩ := Kd.R_slice hS
    obtain ⟨Af, cf, rfl⟩ := Kd.R_slice hT
    have hle : w.heap.size ≤ V0n13.heap.size := HB_9.out.size
    have hvv : V0.heap.size ≤ V0n13.heap.size := VV_v10.out
    have BL0_11 := am_ (blk_below BL0_9.out hb)
    have BL1_11 := am_ (blk_below BL1_9.out hb)
    have BX_11 := am_ (blk_below BX_9.out hb)
    have HB_11 := am_ (below_then HB_9.out HB_9.out.size hb)
    clear BL0_9 BL1_9 BX_9 HB_9
    have hap := am_ (show ∀ j, some j = (Value.slice Ae wr.length ce).ownBlock → some j ≠ (Value.slice Af wl.length cf).ownBlock from fun j hj => hS.1 j hj.symm)
    have hgl := GL_v10.out
    have Re_n := am_ (Kd.R_lower (Kd.R_mono (ok' := fun j => V0.heap.size ≤ j ∧ j < V0n14.heap.size ∧ j ≠ gx ∧ some j = (Value.slice Ae wr.length ce).ownBlock) (Kd.R_bound (Kd.R_tight rfl hS)) (fun j hj => ⟨Nat.le_trans hvv hj.2.1, hj.2.2.1, by have := hj.2.1; omega, hj.1⟩)) hle)
    have Rf_n := am_ (Kd.R_lower (Kd.R_mono (ok' := fun j => V0.heap.size ≤ j ∧ j < V0n14.heap.size ∧ j ≠ gx ∧ some j = (Value.slice Af wl.length cf).ownBlock) (Kd.R_bound (Kd.R_tight rfl hT)) (fun j hj => ⟨Nat.le_trans hvv hj.2.1, hj.2.2.1, by have := hj.2.1; omega, hj.1⟩)) hle)
    clear hS hT hle hvv hgl
    have VV_v12 := am_ (show V0.heap.size ≤ V0n14.heap.size from Nat.le_trans VV_v10.out hb.size)
    have GL_v12 := am_ (show gx < V0n14.heap.size from blk_lt BX_11.out)
    clear hb
    refine hK.out _ _ ⟨(blk_cell BL0_11.out 0).trans rfl, (blk_cell BL1_11.out 0).trans rfl, (blk_cell BL1_11.out 1).trans rfl⟩ (fun hHeld => ?_)
    clear hK K
    refine norm_ (a' := ?_) ?_ ?_
    rotate_left
    ·show Act.put _ (some 40) _ = _
     simp only [Act.put, List.setIfInBounds_toArray, List.set_cons_zero, List.set_cons_succ, i64_w, i32_w]
     rfl
    refine pure_ (i := 7) (N := some 33) (v := ?_) (a' := ?_) #[true, true, true, true, true, true, true, true, false, false, true, false, false] rfl rfl (any_of HT_.out (by kernel_rfl)) (fun _ _ _ h => h) (Or.inl ⟨by rfl, ?_⟩) ?_ ?_
    rotate_left
    ·intro w'
     go_simp
     with_reducible rfl
    rotate_left
    ·simp only [Act.put, List.setIfInBounds_toArray, List.set_cons_zero, List.set_cons_succ, i64_w, i32_w]
     rfl
    refine pure_ (i := 8) (N := some 41) (v := ?_) (a' := ?_) #[true, true, true, true, true, true, true, true, true, false, true, false, false] rfl rfl (any_of HT_.out (by kernel_rfl)) (fun _ _ _ h => h) (Or.inl ⟨by rfl, ?_⟩) ?_ ?_
    rotate_left
    ·intro w'
     go_simp
     with_reducible rfl
    rotate_left
    ·simp only [Act.put, List.setIfInBounds_toArray, List.set_cons_zero, List.set_cons_succ, i64_w, i32_w]
     rfl
    refine pure_ (i := 9) (N := some 42) (v := ?_) (a' := ?_) #[true, true, true, true, true, true, true, true, true, true, true, false, false] rfl rfl (any_of HT_.out (by kernel_rfl)) (fun _ _ _ h => h) (Or.inl ⟨by rfl, ?_⟩) ?_ ?_
    rotate_left
    ·intro w'
     go_simp
     with_reducible rfl
    rotate_left
    ·simp only [Act.put, List.setIfInBounds_toArray, List.set_cons_zero, List.set_cons_succ, i64_w, i32_w]
     rfl
    have zz := hCont (.slice Aa p.length ca, .slice Ab sr.length cb, .slice Ac sl.length cc, .slice Ad rw.length cd, .slice Ae wr.length ce, .slice Af wl.length cf, gx) _ ⟨⟨(blk_cell BL0_11.out 0).trans rfl, (blk_cell BL1_11.out 0).trans rfl, (blk_cell BL1_11.out 1).trans rfl⟩, BL0_11.out, BL1_11.out, BX_11.out, Re_n.out, Rf_n.out, hap.out, HB_11.out, GX.out, GL_v12.out⟩
    simp only [putAll, Act.put, List.setIfInBounds_toArray, List.set_cons_zero, List.set_cons_succ] at zz
    exact zz
  ·refine box_step (by rfl) (N := 8) rfl (cs := #[Value.slice none 0 0, Value.slice none 0 0]) (t := 24) ?hr ?_
   case hr => first | (go_simp; done) | (go_simp; rfl)
   intro gx hgx V0n15 hbx hb
   have GX := am_ (show V0.heap.size ≤ gx from by rw [hgx]; exact Nat.le_refl _)
   have BL0_3 := am_ (blk_below BL0_2.out hb)
   have BL1_3 := am_ (blk_below BL1_2.out hb)
   have HB_3 := am_ (below_then HB_2.out HB_2.out.size hb)
   clear BL0_2 BL1_2 HB_2
   have BX_n := am_ hbx
   have GL_n := am_ (show gx < V0n15.heap.size from blk_lt hbx)
   clear hbx hgx
   have VV_v4 := am_ (show V0.heap.size ≤ V0n15.heap.size from hb.size)
   clear hb
   refine hK.out _ _ ⟨(blk_cell BL0_3.out 0).trans rfl, (blk_cell BL1_3.out 0).trans rfl, (blk_cell BL1_3.out 1).trans rfl⟩ (fun hHeld => ?_)
   clear hK K
   refine norm_ (a' := ?_) ?_ ?_
   rotate_left
   ·show Act.put _ (some 8) _ = _
    simp only [Act.put, List.setIfInBounds_toArray, List.set_cons_zero, List.set_cons_succ, i64_w, i32_w]
    rfl
   refine one_ (i := 1) (N := some 35) #[true, true, true, false, true, false, false, false, false, false, true, false, false] rfl rfl (one_of HT_.out (by kernel_rfl)) (by decide) (fun K hK => ?_)
   refine goes_ Try.func45 (by kernel_rfl) rfl #[.agg #[.slice A0 l.length c0]] (by rfl) rfl rfl (by (try simp only [List.map_toArray, List.map_cons, List.map_nil]); first | done | rfl) ?_
   with_reducible refine (laws_toProg.calls k _ _ l p _ (Kd.C_below CL.out HB_3.out) LL.out Gto.out).mono ?_
   rintro e V0n16 ⟨va, rfl, hS, hb⟩
   refine ⟨_, rfl, ?_⟩
   obtain ⟨Aa, ca, rfl⟩ := Kd.S_slice hS
   have BL0_5 := am_ (blk_below BL0_3.out hb)
   have BL1_5 := am_ (blk_below BL1_3.out hb)
   have BX_5 := am_ (blk_below BX_n.out hb)
   have HB_5 := am_ (below_then HB_3.out HB_3.out.size hb)
   clear BL0_3 BL1_3 BX_n HB_3
   have Ra_n := am_ hS
   clear hS
   have VV_v6 := am_ (show V0.heap.size ≤ V0n16.heap.size from Nat.le_trans VV_v4.out hb.size)
   have GL_v6 := am_ (show gx < V0n16.heap.size from blk_lt BX_5.out)
   clear hb
   refine hK.out _ _ ⟨(blk_cell BL0_5.out 0).trans rfl, (blk_cell BL1_5.out 0).trans rfl, (blk_cell BL1_5.out 1).trans rfl⟩ (fun hHeld => ?_)
   clear hK K
   refine norm_ (a' := ?_) ?_ ?_
   rotate_left
   ·show Act.put _ (some 35) _ = _
    simp only [Act.put, List.setIfInBounds_toArray, List.set_cons_zero, List.set_cons_succ, i64_w, i32_w]
    rfl
   refine one_ (i := 3) (N := some 37) #[true, true, true, true, true, false, false, false, false, false, true, false, false] rfl rfl (one_of HT_.out (by kernel_rfl)) (by decide) (fun K hK => ?_)
   refine goes_ Try.func65 (by kernel_rfl) rfl #[.agg #[.slice A1 sr.length c1, .slice A2 sl.length c2]] (by rfl) rfl rfl (by (try simp only [List.map_toArray, List.map_cons, List.map_nil]); first | done | rfl) ?_
   with_reducible refine (laws_toSeen.calls k _ _ sr _ _ sl sr sl _ (Kd.C_below CM.out HB_5.out) LM.out (Kd.C_below CN.out HB_5.out) LN.out Gtos.out).mono ?_
   rintro e V0n17 ⟨vb, vc, rfl, hS, hT, hb⟩
   refine ⟨_, rfl, ?_⟩
   obtain ⟨Ab, cb, rfl⟩ := Kd.R_slice hS
   obtain ⟨Ac, cc, rfl⟩ := Kd.R_slice hT
   have Ra_7 := am_ (Kd.S_below Ra_n.out hb)
   have BL0_7 := am_ (blk_below BL0_5.out hb)
   have BL1_7 := am_ (blk_below BL1_5.out hb)
   have BX_7 := am_ (blk_below BX_5.out hb)
   have HB_7 := am_ (below_then HB_5.out HB_5.out.size hb)
   clear Ra_n BL0_5 BL1_5 BX_5 HB_5
   have Rb_n := am_ hS
   have Rc_n := am_ hT
   clear hS hT
   have VV_v8 := am_ (show V0.heap.size ≤ V0n17.heap.size from Nat.le_trans VV_v6.out hb.size)
   have GL_v8 := am_ (show gx < V0n17.heap.size from blk_lt BX_7.out)
   clear hb
   refine hK.out _ _ ⟨(blk_cell BL0_7.out 0).trans rfl, (blk_cell BL1_7.out 0).trans rfl, (blk_cell BL1_7.out 1).trans rfl⟩ (fun hHeld => ?_)
   clear hK K
   refine norm_ (a' := ?_) ?_ ?_
   rotate_left
   ·show Act.put _ (some 37) _ = _
    simp only [Act.put, List.setIfInBounds_toArray, List.set_cons_zero, List.set_cons_succ, i64_w, i32_w]
    rfl
   refine one_ (i := 5) (N := some 39) #[true, true, true, true, true, true, false, false, false, false, true, false, false] rfl rfl (one_of HT_.out (by kernel_rfl)) (by decide) (fun K hK => ?_)
   refine goes_ Try.func54 (by kernel_rfl) rfl #[.slice A3 rw.length c3] (by rfl) rfl rfl (by (try simp only [List.map_toArray, List.map_cons, List.map_nil]); first | done | rfl) ?_
   with_reducible refine (laws_toIntS.calls k _ _ rw rw _ (Kd.C_below CR.out HB_7.out) LR.out Gtoi.out).mono ?_
   rintro e V0n18 ⟨vd, rfl, hS, hb⟩
   refine ⟨_, rfl, ?_⟩
   obtain ⟨Ad, cd, rfl⟩ := Kd.R_slice hS
   have Ra_9 := am_ (Kd.S_below Ra_7.out hb)
   have Rb_9 := am_ (Kd.R_below Rb_n.out hb)
   have Rc_9 := am_ (Kd.R_below Rc_n.out hb)
   have BL0_9 := am_ (blk_below BL0_7.out hb)
   have BL1_9 := am_ (blk_below BL1_7.out hb)
   have BX_9 := am_ (blk_below BX_7.out hb)
   have HB_9 := am_ (below_then HB_7.out HB_7.out.size hb)
   clear Ra_7 Rb_n Rc_n BL0_7 BL1_7 BX_7 HB_7
   have Rd_n := am_ hS
   clear hS
   have VV_v10 := am_ (show V0.heap.size ≤ V0n18.heap.size from Nat.le_trans VV_v8.out hb.size)
   have GL_v10 := am_ (show gx < V0n18.heap.size from blk_lt BX_9.out)
   clear hb
   refine hK.out _ _ ⟨(blk_cell BL0_9.out 0).trans rfl, (blk_cell BL1_9.out 0).trans rfl, (blk_cell BL1_9.out 1).trans rfl⟩ (fun hHeld => ?_)
   clear hK K
   refine norm_ (a' := ?_) ?_ ?_
   rotate_left
   ·show Act.put _ (some 39) _ = _
    simp only [Act.put, List.setIfInBounds_toArray, List.set_cons_zero, List.set_cons_succ, i64_w, i32_w]
    rfl
   refine one_ (i := 6) (N := some 40) #[true, true, true, true, true, true, true, false, false, false, true, false, false] rfl rfl (one_of HT_.out (by kernel_rfl)) (by decide) (fun K hK => ?_)
   refine goes_ Try.func60 (by kernel_rfl) rfl #[.agg #[.slice Aa p.length ca], .agg #[.slice Ab sr.length cb, .slice Ac sl.length cc], .slice Ad rw.length cd] (by rfl) rfl rfl (by (try simp only [List.map_toArray, List.map_cons, List.map_nil]); first | done | rfl) ?_
   with_reducible refine (spec_TurnSeen.calls k _ _ p _ _ sr _ _ sl _ _ rw wr wl told _ (Kd.S_reads' Ra_9.out).2.2 (Kd.S_reads' Ra_9.out).2.1 (Kd.R_reads' Rb_9.out).2.2 (Kd.R_reads' Rb_9.out).2.1 (Kd.R_reads' Rc_9.out).2.2 (Kd.R_reads' Rc_9.out).2.1 (Kd.R_reads' Rd_n.out).2.2 (Kd.R_reads' Rd_n.out).2.1 Gsp.out).mono ?_
   rintro e V0n19 ⟨ve, vf, rfl, hS, hT, hb⟩
   refine ⟨_, rfl, ?_⟩
   obtain ⟨Ae, ce, rfl⟩ := Kd.R_slice hS
   obtain ⟨Af, cf, rfl⟩ := Kd.R_slice hT
   have hle : w.heap.size ≤ V0n18.heap.size := HB_9.out.size
   have hvv : V0.heap.size ≤ V0n18.heap.size := VV_v10.out
   have BL0_11 := am_ (blk_below BL0_9.out hb)
   have BL1_11 := am_ (blk_below BL1_9.out hb)
   have BX_11 := am_ (blk_below BX_9.out hb)
   have HB_11 := am_ (below_then HB_9.out HB_9.out.size hb)
   clear BL0_9 BL1_9 BX_9 HB_9
   have hap := am_ (show ∀ j, some j = (Value.slice Ae wr.length ce).ownBlock → some j ≠ (Value.slice Af wl.length cf).ownBlock from fun j hj => hS.1 j hj.symm)
   have hgl := GL_v10.out
   have Re_n := am_ (Kd.R_lower (Kd.R_mono (ok' := fun j => V0.heap.size ≤ j ∧ j < V0n19.heap.size ∧ j ≠ gx ∧ some j = (Value.slice Ae wr.length ce).ownBlock) (Kd.R_bound (Kd.R_tight rfl hS)) (fun j hj => ⟨Nat.le_trans hvv hj.2.1, hj.2.2.1, by have := hj.2.1; omega, hj.1⟩)) hle)
   have Rf_n := am_ (Kd.R_lower (Kd.R_mono (ok' := fun j => V0.heap.size ≤ j ∧ j < V0n19.heap.size ∧ j ≠ gx ∧ some j = (Value.slice Af wl.length cf).ownBlock) (Kd.R_bound (Kd.R_tight rfl hT)) (fun j hj => ⟨Nat.le_trans hvv hj.2.1, hj.2.2.1, by have := hj.2.1; omega, hj.1⟩)) hle)
   clear hS hT hle hvv hgl
   have VV_v12 := am_ (show V0.heap.size ≤ V0n19.heap.size from Nat.le_trans VV_v10.out hb.size)
   have GL_v12 := am_ (show gx < V0n19.heap.size from blk_lt BX_11.out)
   clear hb
   refine hK.out _ _ ⟨(blk_cell BL0_11.out 0).trans rfl, (blk_cell BL1_11.out 0).trans rfl, (blk_cell BL1_11.out 1).trans rfl⟩ (fun hHeld => ?_)
   clear hK K
   refine norm_ (a' := ?_) ?_ ?_
   rotate_left
   ·show Act.put _ (some 40) _ = _
    simp only [Act.put, List.setIfInBounds_toArray, List.set_cons_zero, List.set_cons_succ, i64_w, i32_w]
    rfl
   refine pure_ (i := 7) (N := some 33) (v := ?_) (a' := ?_) #[true, true, true, true, true, true, true, true, false, false, true, false, false] rfl rfl (any_of HT_.out (by kernel_rfl)) (fun _ _ _ h => h) (Or.inl ⟨by rfl, ?_⟩) ?_ ?_
   rotate_left
   ·intro w'
    go_simp
    with_reducible rfl
   rotate_left
   ·simp only [Act.put, List.setIfInBounds_toArray, List.set_cons_zero, List.set_cons_succ, i64_w, i32_w]
    rfl
   refine pure_ (i := 8) (N := some 41) (v := ?_) (a' := ?_) #[true, true, true, true, true, true, true, true, true, false, true, false, false] rfl rfl (any_of HT_.out (by kernel_rfl)) (fun _ _ _ h => h) (Or.inl ⟨by rfl, ?_⟩) ?_ ?_
   rotate_left
   ·intro w'
    go_simp
    with_reducible rfl
   rotate_left
   ·simp only [Act.put, List.setIfInBounds_toArray, List.set_cons_zero, List.set_cons_succ, i64_w, i32_w]
    rfl
   refine pure_ (i := 9) (N := some 42) (v := ?_) (a' := ?_) #[true, true, true, true, true, true, true, true, true, true, true, false, false] rfl rfl (any_of HT_.out (by kernel_rfl)) (fun _ _ _ h => h) (Or.inl ⟨by rfl, ?_⟩) ?_ ?_
   rotate_left
   ·intro w'
    go_simp
    with_reducible rfl
   rotate_left
   ·simp only [Act.put, List.setIfInBounds_toArray, List.set_cons_zero, List.set_cons_succ, i64_w, i32_w]
    rfl
   have zz := hCont (.slice Aa p.length ca, .slice Ab sr.length cb, .slice Ac sl.length cc, .slice Ad rw.length cd, .slice Ae wr.length ce, .slice Af wl.length cf, gx) _ ⟨⟨(blk_cell BL0_11.out 0).trans rfl, (blk_cell BL1_11.out 0).trans rfl, (blk_cell BL1_11.out 1).trans rfl⟩, BL0_11.out, BL1_11.out, BX_11.out, Re_n.out, Rf_n.out, hap.out, HB_11.out, GX.out, GL_v12.out⟩
   simp only [putAll, Act.put, List.setIfInBounds_toArray, List.set_cons_zero, List.set_cons_succ] at zz
   exact zz
 rintro ⟨va, vb, vc, vd, ve, vf, gw⟩ V1 ⟨-, hBL0, hBL1, hbx, hS, hT, hap, hB, hgx, hgl⟩
 simp only at hbx hS hT hap hgx hgl
 obtain ⟨Awr, cwr, rfl⟩ := Kd.R_slice hS
 obtain ⟨Awl, cwl, rfl⟩ := Kd.R_slice hT
 have APw := am_ hap
 clear hap BL0_2 BL1_2 HB_2
 refine norm_ (a' := ?_) ?_ ?_
 rotate_left
 ·simp only [putAll, Act.put, List.setIfInBounds_toArray, List.set_cons_zero, List.set_cons_succ, i64_w, i32_w]
  rfl
 refine one_ (i := 11) (N := none) #[true, true, true, true, true, true, true, true, true, true, true, true, false] rfl rfl (one_of HT_.out (by kernel_rfl)) (by decide) (fun K hK => ?_)
 have hs18 : V1.cell? ⟨gw, 0, none⟩ = some (.slice none 0 0) := (blk_cell hbx 0).trans rfl
 have hs19 : V1.cell? ⟨gw, 1, none⟩ = some (.slice none 0 0) := (blk_cell hbx 1).trans rfl
 have hfs18 := blk_frozen hbx 0
 have hfs19 := blk_frozen hbx 1
 refine skip_ (w1 := ?_) (by rfl) rfl ?_ ?_
 rotate_left
 ·go_simp
  rfl
 clear hs18 hfs18 hs19 hfs19
 have hbx1 := blk_set hbx 0 (.slice Awr wr.length cwr)
 have hne : w.heap.size ≠ gw := by have := NL0V0.out; omega
 have BL0_sw := am_ (blk_far (blk_far hBL0 (p := ⟨gw, 0, none⟩) (by show _ ≠ gw; exact hne) (.slice Awr wr.length cwr)) (p := ⟨gw, 1, none⟩) (by show _ ≠ gw; exact hne) (.slice Awl wl.length cwl))
 clear hne
 have hne : w.heap.size + 1 ≠ gw := by have := NL1V0.out; omega
 have BL1_sw := am_ (blk_far (blk_far hBL1 (p := ⟨gw, 0, none⟩) (by show _ ≠ gw; exact hne) (.slice Awr wr.length cwr)) (p := ⟨gw, 1, none⟩) (by show _ ≠ gw; exact hne) (.slice Awl wl.length cwl))
 clear hne
 have Rwr_sw := am_ (Kd.R_set (Kd.R_set hS hbx (by decide) 0 (.slice Awr wr.length cwr)) hbx1 (by decide) 1 (.slice Awl wl.length cwl))
 have Rwl_sw := am_ (Kd.R_set (Kd.R_set hT hbx (by decide) 0 (.slice Awr wr.length cwr)) hbx1 (by decide) 1 (.slice Awl wl.length cwl))
 have Bw_sw := am_ (show ((V1.setCell ⟨gw, 0, none⟩ (.slice Awr wr.length cwr)).setCell ⟨gw, 1, none⟩ (.slice Awl wl.length cwl)).heap[gw]? = some (Obj.cells #[Value.slice Awr wr.length cwr, Value.slice Awl wl.length cwl] 24) from blk_set hbx1 1 (.slice Awl wl.length cwl))
 have HB_sw := am_ (below_set (g := gw) (j := 1) (v := .slice Awl wl.length cwl) (below_set (g := gw) (j := 0) (v := .slice Awr wr.length cwr) hB (by have := QV0.out; omega)) (by have := QV0.out; omega))
 have hz : ((V1.setCell ⟨gw, 0, none⟩ (.slice Awr wr.length cwr)).setCell ⟨gw, 1, none⟩ (.slice Awl wl.length cwl)).heap.size = V1.heap.size := (World.size_setCell _ _ _).trans (World.size_setCell _ _ _)
 clear hbx hbx1 hS hT hB hBL0 hBL1
 refine hK.out _ _ ⟨(blk_cell BL0_sw.out 0).trans rfl, (blk_cell BL1_sw.out 0).trans rfl, (blk_cell BL1_sw.out 1).trans rfl⟩ (fun hHeld => ?_)
 clear hK K
 refine pure_ (i := 12) (N := some 9) (v := ?_) (a' := ?_) #[true, true, true, true, true, true, true, true, true, true, true, true, true] rfl rfl (any_of HT_.out (by kernel_rfl)) (fun _ _ _ h => h) (Or.inl ⟨by rfl, ?_⟩) ?_ ?_
 rotate_left
 ·intro w'
  go_simp
  with_reducible rfl
 rotate_left
 ·simp only [Act.put, List.setIfInBounds_toArray, List.set_cons_zero, List.set_cons_succ, i64_w, i32_w]
  rfl
 refine done_ (done_of HT_.out (by kernel_rfl)) ?_
 clear HT_ HW_ hHeld
 generalize ((V1.setCell ⟨gw, 0, none⟩ (.slice Awr wr.length cwr)).setCell ⟨gw, 1, none⟩ (.slice Awl wl.length cwl)) = V1s at *
 have Rwr_tw := am_ (Kd.R_mono (ok' := fun j => (V0.heap.size ≤ j ∧ j < V1s.heap.size ∧ j ≠ gw) ∧ some j = (Value.slice Awr wr.length cwr).ownBlock) Rwr_sw.out (fun j hj => ⟨⟨hj.1, by have := hj.2.1; omega, hj.2.2.1⟩, hj.2.2.2⟩))
 have Rwl_tw := am_ (Kd.R_mono (ok' := fun j => (V0.heap.size ≤ j ∧ j < V1s.heap.size ∧ j ≠ gw) ∧ some j = (Value.slice Awl wl.length cwl).ownBlock) Rwl_sw.out (fun j hj => ⟨⟨hj.1, by have := hj.2.1; omega, hj.2.2.1⟩, hj.2.2.2⟩))
 clear Rwr_sw Rwl_sw
 have NGw := am_ (show V0.heap.size ≤ gw ∧ gw < V1s.heap.size from ⟨hgx, by omega⟩)
 clear hgx hgl hz
 have QV1s := am_ (show w.heap.size ≤ V1s.heap.size from HB_sw.out.size)
 have hl0 : V1s.cell? ⟨w.heap.size, 0, none⟩ = some (.slice A0 l.length c0) := (blk_cell BL0_sw.out 0).trans rfl
 go_wp2_with (go_at_call 45; refine park ?_)
 clear hl0
 refine ⟨?_⟩
 refine (laws_toProg.calls k _ _ l p _ (Kd.C_below CL.out HB_sw.out) LL.out Gto.out).mono ?_
 rintro e V2 ⟨vx, rfl, hS, hb⟩
 obtain ⟨Ax, cx, rfl⟩ := Kd.S_slice hS
 have Rwr_3 := am_ (Kd.R_below Rwr_tw.out hb)
 have Rwl_3 := am_ (Kd.R_below Rwl_tw.out hb)
 have BL0_3 := am_ (blk_below BL0_sw.out hb)
 have BL1_3 := am_ (blk_below BL1_sw.out hb)
 have Bw_3 := am_ (blk_below Bw_sw.out hb)
 have HB_3 := am_ (below_then HB_sw.out HB_sw.out.size hb)
 clear Rwr_tw Rwl_tw BL0_sw BL1_sw Bw_sw HB_sw
 have Rx_n := am_ (Kd.S_lower (Kd.S_mono (ok' := fun j => V1s.heap.size ≤ j ∧ j < V2.heap.size) (Kd.S_bound hS) (fun j hj => ⟨hj.2.1, hj.2.2.1⟩)) (show w.heap.size ≤ V1s.heap.size from QV1s.out))
 have QV2 := am_ (show w.heap.size ≤ V2.heap.size from HB_3.out.size)
 have ZV2 := am_ (show V1s.heap.size ≤ V2.heap.size from hb.size)
 clear hS hb
 have Bx_n := am_ (heap_alloc_new V2 (Obj.cells #[Value.slice Ax p.length cx] 35))
 have hb := below_alloc (Below.refl V2.heap.size V2) (Obj.cells #[Value.slice Ax p.length cx] 35)
 have eqs : (V2.alloc (Obj.cells #[Value.slice Ax p.length cx] 35)).heap.size = V2.heap.size + 1 := World.size_alloc _ _
 have Rwr_4 := am_ (Kd.R_below Rwr_3.out hb)
 have Rwl_4 := am_ (Kd.R_below Rwl_3.out hb)
 have Rx_4 := am_ (Kd.S_below Rx_n.out hb)
 have BL0_4 := am_ (blk_below BL0_3.out hb)
 have BL1_4 := am_ (blk_below BL1_3.out hb)
 have Bw_4 := am_ (blk_below Bw_3.out hb)
 have HB_4 := am_ (below_then HB_3.out HB_3.out.size hb)
 clear Rwr_3 Rwl_3 Rx_n BL0_3 BL1_3 Bw_3 HB_3 hb
 have hl0 : (V2.alloc (Obj.cells #[Value.slice Ax p.length cx] 35)).cell? ⟨w.heap.size + 1, 0, none⟩ = some (.slice A1 sr.length c1) := (blk_cell BL1_4.out 0).trans rfl
 have hl1 : (V2.alloc (Obj.cells #[Value.slice Ax p.length cx] 35)).cell? ⟨w.heap.size + 1, 1, none⟩ = some (.slice A2 sl.length c2) := (blk_cell BL1_4.out 1).trans rfl
 go_wp2_with (go_at_call 65; refine park ?_)
 clear hl0 hl1
 refine ⟨?_⟩
 generalize V2.heap.size = gx at *
 generalize (V2.alloc (Obj.cells #[Value.slice Ax p.length cx] 35)) = V3a at *
 have QV3a := am_ (show w.heap.size ≤ V3a.heap.size from HB_4.out.size)
 have ZV3a := am_ (show V3a.heap.size = gx + 1 from eqs)
 clear eqs
 refine (laws_toSeen.calls k _ _ sr _ _ sl sr sl _ (Kd.C_below CM.out HB_4.out) LM.out (Kd.C_below CN.out HB_4.out) LN.out Gtos.out).mono ?_
 rintro e V3 ⟨vb, vc, rfl, hS, hT, hb⟩
 obtain ⟨Ayr, cyr, rfl⟩ := Kd.R_slice hS
 obtain ⟨Ayl, cyl, rfl⟩ := Kd.R_slice hT
 have APy := am_ (show ∀ j, some j = (Value.slice Ayr sr.length cyr).ownBlock → some j ≠ (Value.slice Ayl sl.length cyl).ownBlock from fun j hj => hS.1 j hj.symm)
 have Rwr_5 := am_ (Kd.R_below Rwr_4.out hb)
 have Rwl_5 := am_ (Kd.R_below Rwl_4.out hb)
 have Rx_5 := am_ (Kd.S_below Rx_4.out hb)
 have BL0_5 := am_ (blk_below BL0_4.out hb)
 have BL1_5 := am_ (blk_below BL1_4.out hb)
 have Bw_5 := am_ (blk_below Bw_4.out hb)
 have Bx_5 := am_ (blk_below Bx_n.out hb)
 have HB_5 := am_ (below_then HB_4.out HB_4.out.size hb)
 clear Rwr_4 Rwl_4 Rx_4 BL0_4 BL1_4 Bw_4 Bx_n HB_4
 have Ryr_n := am_ (Kd.R_lower (Kd.R_mono (ok' := fun j => (V3a.heap.size ≤ j ∧ j < V3.heap.size) ∧ some j = (Value.slice Ayr sr.length cyr).ownBlock) (Kd.R_bound (Kd.R_tight rfl hS)) (fun j hj => ⟨⟨hj.2.1, hj.2.2.1⟩, hj.1⟩)) (show w.heap.size ≤ V3a.heap.size from QV3a.out))
 have Ryl_n := am_ (Kd.R_lower (Kd.R_mono (ok' := fun j => (V3a.heap.size ≤ j ∧ j < V3.heap.size) ∧ some j = (Value.slice Ayl sl.length cyl).ownBlock) (Kd.R_bound (Kd.R_tight rfl hT)) (fun j hj => ⟨⟨hj.2.1, hj.2.2.1⟩, hj.1⟩)) (show w.heap.size ≤ V3a.heap.size from QV3a.out))
 have QV3 := am_ (show w.heap.size ≤ V3.heap.size from HB_5.out.size)
 have ZV3 := am_ (show V3a.heap.size ≤ V3.heap.size from hb.size)
 clear hS hT hb
 have By_n := am_ (heap_alloc_new V3 (Obj.cells #[Value.slice Ayr sr.length cyr, Value.slice Ayl sl.length cyl] 24))
 have hb := below_alloc (Below.refl V3.heap.size V3) (Obj.cells #[Value.slice Ayr sr.length cyr, Value.slice Ayl sl.length cyl] 24)
 have eqs : (V3.alloc (Obj.cells #[Value.slice Ayr sr.length cyr, Value.slice Ayl sl.length cyl] 24)).heap.size = V3.heap.size + 1 := World.size_alloc _ _
 have Rwr_6 := am_ (Kd.R_below Rwr_5.out hb)
 have Rwl_6 := am_ (Kd.R_below Rwl_5.out hb)
 have Rx_6 := am_ (Kd.S_below Rx_5.out hb)
 have Ryr_6 := am_ (Kd.R_below Ryr_n.out hb)
 have Ryl_6 := am_ (Kd.R_below Ryl_n.out hb)
 have BL0_6 := am_ (blk_below BL0_5.out hb)
 have BL1_6 := am_ (blk_below BL1_5.out hb)
 have Bw_6 := am_ (blk_below Bw_5.out hb)
 have Bx_6 := am_ (blk_below Bx_5.out hb)
 have HB_6 := am_ (below_then HB_5.out HB_5.out.size hb)
 clear Rwr_5 Rwl_5 Rx_5 Ryr_n Ryl_n BL0_5 BL1_5 Bw_5 Bx_5 HB_5 hb
 go_wp2_with (go_at_call 54; refine park ?_)
 refine ⟨?_⟩
 generalize V3.heap.size = gy at *
 generalize (V3.alloc (Obj.cells #[Value.slice Ayr sr.length cyr, Value.slice Ayl sl.length cyl] 24)) = V4a at *
 have QV4a := am_ (show w.heap.size ≤ V4a.heap.size from HB_6.out.size)
 have ZV4a := am_ (show V4a.heap.size = gy + 1 from eqs)
 clear eqs
 refine (laws_toIntS.calls k _ _ rw rw _ (Kd.C_below CR.out HB_6.out) LR.out Gtoi.out).mono ?_
 rintro e V4 ⟨vr, rfl, hS, hb⟩
 obtain ⟨Ar, cr, rfl⟩ := Kd.R_slice hS
 have Rwr_7 := am_ (Kd.R_below Rwr_6.out hb)
 have Rwl_7 := am_ (Kd.R_below Rwl_6.out hb)
 have Rx_7 := am_ (Kd.S_below Rx_6.out hb)
 have Ryr_7 := am_ (Kd.R_below Ryr_6.out hb)
 have Ryl_7 := am_ (Kd.R_below Ryl_6.out hb)
 have BL0_7 := am_ (blk_below BL0_6.out hb)
 have BL1_7 := am_ (blk_below BL1_6.out hb)
 have Bw_7 := am_ (blk_below Bw_6.out hb)
 have Bx_7 := am_ (blk_below Bx_6.out hb)
 have By_7 := am_ (blk_below By_n.out hb)
 have HB_7 := am_ (below_then HB_6.out HB_6.out.size hb)
 clear Rwr_6 Rwl_6 Rx_6 Ryr_6 Ryl_6 BL0_6 BL1_6 Bw_6 Bx_6 By_n HB_6
 have Rr_n := am_ (Kd.R_lower (Kd.R_mono (ok' := fun j => V4a.heap.size ≤ j ∧ j < V4.heap.size) (Kd.R_bound hS) (fun j hj => ⟨hj.2.1, hj.2.2.1⟩)) (show w.heap.size ≤ V4a.heap.size from QV4a.out))
 have QV4 := am_ (show w.heap.size ≤ V4.heap.size from HB_7.out.size)
 have ZV4 := am_ (show V4a.heap.size ≤ V4.heap.size from hb.size)
 clear hS hb
 have hl0 : V4.cell? ⟨gx, 0, none⟩ = some (.slice Ax p.length cx) := (blk_cell Bx_7.out 0).trans rfl
 have hl1 : V4.cell? ⟨gy, 0, none⟩ = some (.slice Ayr sr.length cyr) := (blk_cell By_7.out 0).trans rfl
 have hl2 : V4.cell? ⟨gy, 1, none⟩ = some (.slice Ayl sl.length cyl) := (blk_cell By_7.out 1).trans rfl
 go_wp2_with (go_at_call 61; refine park ?_)
 clear hl0 hl1 hl2
 refine ⟨?_⟩
 refine (impl_TurnSeen.calls k _ _ p _ _ _ sr _ _ sl _ _ rw wr wl told _ (Kd.S_reads' Rx_7.out).2.2 (Kd.S_reads' Rx_7.out).2.1 (Kd.R_V Ryr_7.out) (Kd.R_reads' Ryl_7.out).2.2 (Kd.R_reads' Ryl_7.out).2.1 (Kd.R_reads' Rr_n.out).2.2 (Kd.R_reads' Rr_n.out).2.1 Gim.out).mono ?_
 rintro e V5 ⟨vb, vc, rfl, hS, hT, hb⟩
 obtain ⟨Agr, cgr, rfl⟩ := Kd.R_slice hS
 obtain ⟨Agl, cgl, rfl⟩ := Kd.R_slice hT
 have APg := am_ (show ∀ j, some j = (Value.slice Agr wr.length cgr).ownBlock → some j ≠ (Value.slice Agl wl.length cgl).ownBlock from fun j hj => (hS.1 j hj.symm).2)
 have Rwr_8 := am_ (Kd.R_below Rwr_7.out hb)
 have Rwl_8 := am_ (Kd.R_below Rwl_7.out hb)
 have Rx_8 := am_ (Kd.S_below Rx_7.out hb)
 have Ryr_8 := am_ (Kd.R_below Ryr_7.out hb)
 have Ryl_8 := am_ (Kd.R_below Ryl_7.out hb)
 have Rr_8 := am_ (Kd.R_below Rr_n.out hb)
 have BL0_8 := am_ (blk_below BL0_7.out hb)
 have BL1_8 := am_ (blk_below BL1_7.out hb)
 have Bw_8 := am_ (blk_below Bw_7.out hb)
 have Bx_8 := am_ (blk_below Bx_7.out hb)
 have By_8 := am_ (blk_below By_7.out hb)
 have HB_8 := am_ (below_then HB_7.out HB_7.out.size hb)
 clear Rwr_7 Rwl_7 Rx_7 Ryr_7 Ryl_7 Rr_n BL0_7 BL1_7 Bw_7 Bx_7 By_7 HB_7
 have Rgr_n := am_ (Kd.R_lower (Kd.R_mono (ok' := fun j => (V4.heap.size ≤ j ∧ j < V5.heap.size) ∧ some j = (Value.slice Agr wr.length cgr).ownBlock) (Kd.R_bound (Kd.R_tight rfl hS)) (fun j hj => ⟨⟨hj.2.1, hj.2.2.1⟩, hj.1⟩)) (show w.heap.size ≤ V4.heap.size from QV4.out))
 have Rgl_n := am_ (Kd.R_lower (Kd.R_mono (ok' := fun j => (V4.heap.size ≤ j ∧ j < V5.heap.size) ∧ some j = (Value.slice Agl wl.length cgl).ownBlock) (Kd.R_bound (Kd.R_tight rfl hT)) (fun j hj => ⟨⟨hj.2.1, hj.2.2.1⟩, hj.1⟩)) (show w.heap.size ≤ V4.heap.size from QV4.out))
 have QV5 := am_ (show w.heap.size ≤ V5.heap.size from HB_8.out.size)
 have ZV5 := am_ (show V4.heap.size ≤ V5.heap.size from hb.size)
 clear hS hT hb
 have Bg_n := am_ (heap_alloc_new V5 (Obj.cells #[Value.slice Agr wr.length cgr, Value.slice Agl wl.length cgl] 24))
 have hb := below_alloc (Below.refl V5.heap.size V5) (Obj.cells #[Value.slice Agr wr.length cgr, Value.slice Agl wl.length cgl] 24)
 have eqs : (V5.alloc (Obj.cells #[Value.slice Agr wr.length cgr, Value.slice Agl wl.length cgl] 24)).heap.size = V5.heap.size + 1 := World.size_alloc _ _
 have Rwr_9 := am_ (Kd.R_below Rwr_8.out hb)
 have Rwl_9 := am_ (Kd.R_below Rwl_8.out hb)
 have Rx_9 := am_ (Kd.S_below Rx_8.out hb)
 have Ryr_9 := am_ (Kd.R_below Ryr_8.out hb)
 have Ryl_9 := am_ (Kd.R_below Ryl_8.out hb)
 have Rr_9 := am_ (Kd.R_below Rr_8.out hb)
 have Rgr_9 := am_ (Kd.R_below Rgr_n.out hb)
 have Rgl_9 := am_ (Kd.R_below Rgl_n.out hb)
 have BL0_9 := am_ (blk_below BL0_8.out hb)
 have BL1_9 := am_ (blk_below BL1_8.out hb)
 have Bw_9 := am_ (blk_below Bw_8.out hb)
 have Bx_9 := am_ (blk_below Bx_8.out hb)
 have By_9 := am_ (blk_below By_8.out hb)
 have HB_9 := am_ (below_then HB_8.out HB_8.out.size hb)
 clear Rwr_8 Rwl_8 Rx_8 Ryr_8 Ryl_8 Rr_8 Rgr_n Rgl_n BL0_8 BL1_8 Bw_8 Bx_8 By_8 HB_8 hb
 have hl0 : (V5.alloc (Obj.cells #[Value.slice Agr wr.length cgr, Value.slice Agl wl.length cgl] 24)).cell? ⟨V5.heap.size, 0, none⟩ = some (.slice Agr wr.length cgr) := (blk_cell Bg_n.out 0).trans rfl
 have hl1 : (V5.alloc (Obj.cells #[Value.slice Agr wr.length cgr, Value.slice Agl wl.length cgl] 24)).cell? ⟨V5.heap.size, 1, none⟩ = some (.slice Agl wl.length cgl) := (blk_cell Bg_n.out 1).trans rfl
 have hl2 : (V5.alloc (Obj.cells #[Value.slice Agr wr.length cgr, Value.slice Agl wl.length cgl] 24)).cell? ⟨gw, 0, none⟩ = some (.slice Awr wr.length cwr) := (blk_cell Bw_9.out 0).trans rfl
 have hl3 : (V5.alloc (Obj.cells #[Value.slice Agr wr.length cgr, Value.slice Agl wl.length cgl] 24)).cell? ⟨gw, 1, none⟩ = some (.slice Awl wl.length cwl) := (blk_cell Bw_9.out 1).trans rfl
 go_wp2_with (go_at_call 24; refine park ?_)
 clear hl0 hl1 hl2 hl3
 refine ⟨?_⟩
 generalize V5.heap.size = gg at *
 generalize (V5.alloc (Obj.cells #[Value.slice Agr wr.length cgr, Value.slice Agl wl.length cgl] 24)) = V6a at *
 have QV6a := am_ (show w.heap.size ≤ V6a.heap.size from HB_9.out.size)
 have ZV6a := am_ (show V6a.heap.size = gg + 1 from eqs)
 clear eqs
 refine (laws_eqSeen.calls k _ _ wr _ _ wl _ _ wr _ _ wl true _ (Kd.R_reads' Rgr_9.out).2.2 (Kd.R_reads' Rgr_9.out).2.1 (Kd.R_reads' Rgl_9.out).2.2 (Kd.R_reads' Rgl_9.out).2.1 (Kd.R_reads' Rwr_9.out).2.2 (Kd.R_reads' Rwr_9.out).2.1 (Kd.R_reads' Rwl_9.out).2.2 (Kd.R_reads' Rwl_9.out).2.1 Geqw.out).mono ?_
 rintro e V6 ⟨rfl, hb⟩
 have Rwr_10 := am_ (Kd.R_below Rwr_9.out hb)
 have Rwl_10 := am_ (Kd.R_below Rwl_9.out hb)
 have Rx_10 := am_ (Kd.S_below Rx_9.out hb)
 have Ryr_10 := am_ (Kd.R_below Ryr_9.out hb)
 have Ryl_10 := am_ (Kd.R_below Ryl_9.out hb)
 have Rr_10 := am_ (Kd.R_below Rr_9.out hb)
 have Rgr_10 := am_ (Kd.R_below Rgr_9.out hb)
 have Rgl_10 := am_ (Kd.R_below Rgl_9.out hb)
 have BL0_10 := am_ (blk_below BL0_9.out hb)
 have BL1_10 := am_ (blk_below BL1_9.out hb)
 have Bw_10 := am_ (blk_below Bw_9.out hb)
 have Bx_10 := am_ (blk_below Bx_9.out hb)
 have By_10 := am_ (blk_below By_9.out hb)
 have Bg_10 := am_ (blk_below Bg_n.out hb)
 have HB_10 := am_ (below_then HB_9.out HB_9.out.size hb)
 clear Rwr_9 Rwl_9 Rx_9 Ryr_9 Ryl_9 Rr_9 Rgr_9 Rgl_9 BL0_9 BL1_9 Bw_9 Bx_9 By_9 Bg_n HB_9 hb
 go_wp2_with fail
 have hb := below_drew (Below.refl V6.heap.size V6)
 have Rwr_11 := am_ (Kd.R_below Rwr_10.out hb)
 have Rwl_11 := am_ (Kd.R_below Rwl_10.out hb)
 have Rx_11 := am_ (Kd.S_below Rx_10.out hb)
 have Ryr_11 := am_ (Kd.R_below Ryr_10.out hb)
 have Ryl_11 := am_ (Kd.R_below Ryl_10.out hb)
 have Rr_11 := am_ (Kd.R_below Rr_10.out hb)
 have Rgr_11 := am_ (Kd.R_below Rgr_10.out hb)
 have Rgl_11 := am_ (Kd.R_below Rgl_10.out hb)
 have BL0_11 := am_ (blk_below BL0_10.out hb)
 have BL1_11 := am_ (blk_below BL1_10.out hb)
 have Bw_11 := am_ (blk_below Bw_10.out hb)
 have Bx_11 := am_ (blk_below Bx_10.out hb)
 have By_11 := am_ (blk_below By_10.out hb)
 have Bg_11 := am_ (blk_below Bg_10.out hb)
 have HB_11 := am_ (below_then HB_10.out HB_10.out.size hb)
 clear Rwr_10 Rwl_10 Rx_10 Ryr_10 Ryl_10 Rr_10 Rgr_10 Rgl_10 BL0_10 BL1_10 Bw_10 Bx_10 By_10 Bg_10 HB_10 hb
 refine start_ (n := 5) (S := fun w' => w'.cell? ⟨gx, 0, none⟩ = some (.slice Ax p.length cx) ∧ w'.cell? ⟨w.heap.size, 0, none⟩ = some (.slice A0 l.length c0)) (ds := []) #[false, false, false, false, false] (by kernel_rfl) rfl rfl ⟨(blk_cell Bx_11.out 0).trans rfl, (blk_cell BL0_11.out 0).trans rfl⟩ (fun hHeld => ?_)
 refine with_tabW laws_FnExactTurnSeen.tab17 laws_FnExactTurnSeen.bits17 (fun HT_ HW_ => ?_)
 generalize V6.drew = V7 at *
 refine take_ (i := 0) (N := some 65) (v := ?_) (a' := ?_) #[true, false, false, false, false] rfl rfl (take_ofW HT_.out HW_.out (by kernel_rfl)) (fun _ _ _ h => h) (Or.inl ⟨by rfl, ?_⟩) hHeld ?_ ?_
 rotate_left
 ·intro w' s0
  have s1 := s0.1
  go_simp
  with_reducible rfl
 rotate_left
 ·simp only [Act.put, List.setIfInBounds_toArray, List.set_cons_zero, List.set_cons_succ, i64_w, i32_w]
  rfl
 refine take_ (i := 1) (N := some 66) (v := ?_) (a' := ?_) #[true, true, false, false, false] rfl rfl (take_ofW HT_.out HW_.out (by kernel_rfl)) (fun _ _ _ h => h) (Or.inl ⟨by rfl, ?_⟩) hHeld ?_ ?_
 rotate_left
 ·intro w' s0
  have s1 := s0.2
  go_simp
  with_reducible rfl
 rotate_left
 ·simp only [Act.put, List.setIfInBounds_toArray, List.set_cons_zero, List.set_cons_succ, i64_w, i32_w]
  rfl
 refine one_ (i := 2) (N := some 67) #[true, true, true, false, false] rfl rfl (one_of HT_.out (by kernel_rfl)) (by decide) (fun K hK => ?_)
 have QV7 := am_ (show w.heap.size ≤ V7.heap.size from HB_11.out.size)
 refine goes_ Try.func45 (by kernel_rfl) rfl #[.agg #[.slice A0 l.length c0]] (by rfl) rfl rfl (by (try simp only [List.map_toArray, List.map_cons, List.map_nil]); first | done | rfl) ?_
 with_reducible refine (laws_toProg.calls k _ _ l p _ (Kd.C_below CL.out HB_11.out) LL.out Gto.out).mono ?_
 rintro e V8 ⟨vu, rfl, hS, hb⟩
 refine ⟨_, rfl, ?_⟩
 obtain ⟨Au, cu, rfl⟩ := Kd.S_slice hS
 have Rwr_12 := am_ (Kd.R_below Rwr_11.out hb)
 have Rwl_12 := am_ (Kd.R_below Rwl_11.out hb)
 have Rx_12 := am_ (Kd.S_below Rx_11.out hb)
 have Ryr_12 := am_ (Kd.R_below Ryr_11.out hb)
 have Ryl_12 := am_ (Kd.R_below Ryl_11.out hb)
 have Rr_12 := am_ (Kd.R_below Rr_11.out hb)
 have Rgr_12 := am_ (Kd.R_below Rgr_11.out hb)
 have Rgl_12 := am_ (Kd.R_below Rgl_11.out hb)
 have BL0_12 := am_ (blk_below BL0_11.out hb)
 have BL1_12 := am_ (blk_below BL1_11.out hb)
 have Bw_12 := am_ (blk_below Bw_11.out hb)
 have Bx_12 := am_ (blk_below Bx_11.out hb)
 have By_12 := am_ (blk_below By_11.out hb)
 have Bg_12 := am_ (blk_below Bg_11.out hb)
 have HB_12 := am_ (below_then HB_11.out HB_11.out.size hb)
 clear Rwr_11 Rwl_11 Rx_11 Ryr_11 Ryl_11 Rr_11 Rgr_11 Rgl_11 BL0_11 BL1_11 Bw_11 Bx_11 By_11 Bg_11 HB_11
 have Ru_n := am_ (Kd.S_lower (Kd.S_mono (ok' := fun j => V7.heap.size ≤ j ∧ j < V8.heap.size) (Kd.S_bound hS) (fun j hj => ⟨hj.2.1, hj.2.2.1⟩)) (show w.heap.size ≤ V7.heap.size from QV7.out))
 clear hS hb
 refine hK.out _ _ ⟨(blk_cell Bx_12.out 0).trans rfl, (blk_cell BL0_12.out 0).trans rfl⟩ (fun hHeld => ?_)
 clear hK K
 refine norm_ (a' := ?_) ?_ ?_
 rotate_left
 ·show Act.put _ (some 67) _ = _
  simp only [Act.put, List.setIfInBounds_toArray, List.set_cons_zero, List.set_cons_succ, i64_w, i32_w]
  rfl
 refine one_ (i := 3) (N := some 68) #[true, true, true, true, false] rfl rfl (one_of HT_.out (by kernel_rfl)) (by decide) (fun K hK => ?_)
 refine goes_ Try.func32 (by kernel_rfl) rfl #[.agg #[.slice Ax p.length cx], .agg #[.slice Au p.length cu]] (by rfl) rfl rfl (by (try simp only [List.map_toArray, List.map_cons, List.map_nil]); first | done | rfl) ?_
 with_reducible refine (laws_eqProg.calls k _ _ p _ _ p true _ (Kd.S_reads' Rx_12.out).2.2 (Kd.S_reads' Rx_12.out).2.1 (Kd.S_reads' Ru_n.out).2.2 (Kd.S_reads' Ru_n.out).2.1 Geqp.out).mono ?_
 rintro e V9 ⟨rfl, hb⟩
 refine ⟨_, rfl, ?_⟩
 have Rwr_13 := am_ (Kd.R_below Rwr_12.out hb)
 have Rwl_13 := am_ (Kd.R_below Rwl_12.out hb)
 have Rx_13 := am_ (Kd.S_below Rx_12.out hb)
 have Ryr_13 := am_ (Kd.R_below Ryr_12.out hb)
 have Ryl_13 := am_ (Kd.R_below Ryl_12.out hb)
 have Rr_13 := am_ (Kd.R_below Rr_12.out hb)
 have Rgr_13 := am_ (Kd.R_below Rgr_12.out hb)
 have Rgl_13 := am_ (Kd.R_below Rgl_12.out hb)
 have Ru_13 := am_ (Kd.S_below Ru_n.out hb)
 have BL0_13 := am_ (blk_below BL0_12.out hb)
 have BL1_13 := am_ (blk_below BL1_12.out hb)
 have Bw_13 := am_ (blk_below Bw_12.out hb)
 have Bx_13 := am_ (blk_below Bx_12.out hb)
 have By_13 := am_ (blk_below By_12.out hb)
 have Bg_13 := am_ (blk_below Bg_12.out hb)
 have HB_13 := am_ (below_then HB_12.out HB_12.out.size hb)
 clear Rwr_12 Rwl_12 Rx_12 Ryr_12 Ryl_12 Rr_12 Rgr_12 Rgl_12 Ru_n BL0_12 BL1_12 Bw_12 Bx_12 By_12 Bg_12 HB_12 hb
 refine hK.out _ _ ⟨(blk_cell Bx_13.out 0).trans rfl, (blk_cell BL0_13.out 0).trans rfl⟩ (fun hHeld => ?_)
 clear hK K
 refine norm_ (a' := ?_) ?_ ?_
 rotate_left
 ·show Act.put _ (some 68) _ = _
  simp only [Act.put, List.setIfInBounds_toArray, List.set_cons_zero, List.set_cons_succ, i64_w, i32_w]
  rfl
 refine pure_ (i := 4) (N := some 69) (v := ?_) (a' := ?_) #[true, true, true, true, true] rfl rfl (any_of HT_.out (by kernel_rfl)) (fun _ _ _ h => h) (Or.inl ⟨by rfl, ?_⟩) ?_ ?_
 rotate_left
 ·intro w'
  go_simp
  with_reducible rfl
 rotate_left
 ·simp only [Act.put, List.setIfInBounds_toArray, List.set_cons_zero, List.set_cons_succ, i64_w, i32_w]
  rfl
 refine done_ (done_of HT_.out (by kernel_rfl)) ?_
 clear HT_ HW_ hHeld
 go_wp2_with fail
 have hb := below_drew (Below.refl V9.heap.size V9)
 have Rwr_14 := am_ (Kd.R_below Rwr_13.out hb)
 have Rwl_14 := am_ (Kd.R_below Rwl_13.out hb)
 have Rx_14 := am_ (Kd.S_below Rx_13.out hb)
 have Ryr_14 := am_ (Kd.R_below Ryr_13.out hb)
 have Ryl_14 := am_ (Kd.R_below Ryl_13.out hb)
 have Rr_14 := am_ (Kd.R_below Rr_13.out hb)
 have Rgr_14 := am_ (Kd.R_below Rgr_13.out hb)
 have Rgl_14 := am_ (Kd.R_below Rgl_13.out hb)
 have BL0_14 := am_ (blk_below BL0_13.out hb)
 have BL1_14 := am_ (blk_below BL1_13.out hb)
 have Bw_14 := am_ (blk_below Bw_13.out hb)
 have Bx_14 := am_ (blk_below Bx_13.out hb)
 have By_14 := am_ (blk_below By_13.out hb)
 have Bg_14 := am_ (blk_below Bg_13.out hb)
 have HB_14 := am_ (below_then HB_13.out HB_13.out.size hb)
 clear Rwr_13 Rwl_13 Rx_13 Ryr_13 Ryl_13 Rr_13 Rgr_13 Rgl_13 BL0_13 BL1_13 Bw_13 Bx_13 By_13 Bg_13 HB_13 hb
 refine start_ (n := 5) (S := fun w' => w'.cell? ⟨gy, 0, none⟩ = some (.slice Ayr sr.length cyr) ∧ w'.cell? ⟨gy, 1, none⟩ = some (.slice Ayl sl.length cyl) ∧ w'.cell? ⟨w.heap.size + 1, 0, none⟩ = some (.slice A1 sr.length c1) ∧ w'.cell? ⟨w.heap.size + 1, 1, none⟩ = some (.slice A2 sl.length c2)) (ds := []) #[false, false, false, false, false] (by kernel_rfl) rfl rfl ⟨(blk_cell By_14.out 0).trans rfl, (blk_cell By_14.out 1).trans rfl, (blk_cell BL1_14.out 0).trans rfl, (blk_cell BL1_14.out 1).trans rfl⟩ (fun hHeld => ?_)
 refine with_tabW laws_FnExactTurnSeen.tab19 laws_FnExactTurnSeen.bits19 (fun HT_ HW_ => ?_)
 generalize V9.drew = V10 at *
 refine take_ (i := 0) (N := some 70) (v := ?_) (a' := ?_) #[true, false, false, false, false] rfl rfl (take_ofW HT_.out HW_.out (by kernel_rfl)) (fun _ _ _ h => h) (Or.inl ⟨by rfl, ?_⟩) hHeld ?_ ?_
 rotate_left
 ·intro w' s0
  have s1 := s0.1
  have s2 := s0.2.1
  go_simp
  with_reducible rfl
 rotate_left
 ·simp only [Act.put, List.setIfInBounds_toArray, List.set_cons_zero, List.set_cons_succ, i64_w, i32_w]
  rfl
 refine take_ (i := 1) (N := some 71) (v := ?_) (a' := ?_) #[true, true, false, false, false] rfl rfl (take_ofW HT_.out HW_.out (by kernel_rfl)) (fun _ _ _ h => h) (Or.inl ⟨by rfl, ?_⟩) hHeld ?_ ?_
 rotate_left
 ·intro w' s0
  have s1 := s0.2.2.1
  have s2 := s0.2.2.2
  go_simp
  with_reducible rfl
 rotate_left
 ·simp only [Act.put, List.setIfInBounds_toArray, List.set_cons_zero, List.set_cons_succ, i64_w, i32_w]
  rfl
 refine one_ (i := 2) (N := some 72) #[true, true, true, false, false] rfl rfl (one_of HT_.out (by kernel_rfl)) (by decide) (fun K hK => ?_)
 have QV10 := am_ (show w.heap.size ≤ V10.heap.size from HB_14.out.size)
 refine goes_ Try.func65 (by kernel_rfl) rfl #[.agg #[.slice A1 sr.length c1, .slice A2 sl.length c2]] (by rfl) rfl rfl (by (try simp only [List.map_toArray, List.map_cons, List.map_nil]); first | done | rfl) ?_
 with_reducible refine (laws_toSeen.calls k _ _ sr _ _ sl sr sl _ (Kd.C_below CM.out HB_14.out) LM.out (Kd.C_below CN.out HB_14.out) LN.out Gtos.out).mono ?_
 rintro e V11 ⟨vb, vc, rfl, hS, hT, hb⟩
 refine ⟨_, rfl, ?_⟩
 obtain ⟨Aur, cur, rfl⟩ := Kd.R_slice hS
 obtain ⟨Aul, cul, rfl⟩ := Kd.R_slice hT
 have Rwr_15 := am_ (Kd.R_below Rwr_14.out hb)
 have Rwl_15 := am_ (Kd.R_below Rwl_14.out hb)
 have Rx_15 := am_ (Kd.S_below Rx_14.out hb)
 have Ryr_15 := am_ (Kd.R_below Ryr_14.out hb)
 have Ryl_15 := am_ (Kd.R_below Ryl_14.out hb)
 have Rr_15 := am_ (Kd.R_below Rr_14.out hb)
 have Rgr_15 := am_ (Kd.R_below Rgr_14.out hb)
 have Rgl_15 := am_ (Kd.R_below Rgl_14.out hb)
 have BL0_15 := am_ (blk_below BL0_14.out hb)
 have BL1_15 := am_ (blk_below BL1_14.out hb)
 have Bw_15 := am_ (blk_below Bw_14.out hb)
 have Bx_15 := am_ (blk_below Bx_14.out hb)
 have By_15 := am_ (blk_below By_14.out hb)
 have Bg_15 := am_ (blk_below Bg_14.out hb)
 have HB_15 := am_ (below_then HB_14.out HB_14.out.size hb)
 clear Rwr_14 Rwl_14 Rx_14 Ryr_14 Ryl_14 Rr_14 Rgr_14 Rgl_14 BL0_14 BL1_14 Bw_14 Bx_14 By_14 Bg_14 HB_14
 have Rur_n := am_ (Kd.R_lower (Kd.R_mono (ok' := fun j => (V10.heap.size ≤ j ∧ j < V11.heap.size) ∧ some j = (Value.slice Aur sr.length cur).ownBlock) (Kd.R_bound (Kd.R_tight rfl hS)) (fun j hj => ⟨⟨hj.2.1, hj.2.2.1⟩, hj.1⟩)) (show w.heap.size ≤ V10.heap.size from QV10.out))
 have Rul_n := am_ (Kd.R_lower (Kd.R_mono (ok' := fun j => (V10.heap.size ≤ j ∧ j < V11.heap.size) ∧ some j = (Value.slice Aul sl.length cul).ownBlock) (Kd.R_bound (Kd.R_tight rfl hT)) (fun j hj => ⟨⟨hj.2.1, hj.2.2.1⟩, hj.1⟩)) (show w.heap.size ≤ V10.heap.size from QV10.out))
 clear hS hT hb
 refine hK.out _ _ ⟨(blk_cell By_15.out 0).trans rfl, (blk_cell By_15.out 1).trans rfl, (blk_cell BL1_15.out 0).trans rfl, (blk_cell BL1_15.out 1).trans rfl⟩ (fun hHeld => ?_)
 clear hK K
 refine norm_ (a' := ?_) ?_ ?_
 rotate_left
 ·show Act.put _ (some 72) _ = _
  simp only [Act.put, List.setIfInBounds_toArray, List.set_cons_zero, List.set_cons_succ, i64_w, i32_w]
  rfl
 refine one_ (i := 3) (N := some 73) #[true, true, true, true, false] rfl rfl (one_of HT_.out (by kernel_rfl)) (by decide) (fun K hK => ?_)
 refine goes_ Try.func24 (by kernel_rfl) rfl #[.agg #[.slice Ayr sr.length cyr, .slice Ayl sl.length cyl], .agg #[.slice Aur sr.length cur, .slice Aul sl.length cul]] (by rfl) rfl rfl (by (try simp only [List.map_toArray, List.map_cons, List.map_nil]); first | done | rfl) ?_
 with_reducible refine (laws_eqSeen.calls k _ _ sr _ _ sl _ _ sr _ _ sl true _ (Kd.R_reads' Ryr_15.out).2.2 (Kd.R_reads' Ryr_15.out).2.1 (Kd.R_reads' Ryl_15.out).2.2 (Kd.R_reads' Ryl_15.out).2.1 (Kd.R_reads' Rur_n.out).2.2 (Kd.R_reads' Rur_n.out).2.1 (Kd.R_reads' Rul_n.out).2.2 (Kd.R_reads' Rul_n.out).2.1 Geqs.out).mono ?_
 rintro e V12 ⟨rfl, hb⟩
 refine ⟨_, rfl, ?_⟩
 have Rwr_16 := am_ (Kd.R_below Rwr_15.out hb)
 have Rwl_16 := am_ (Kd.R_below Rwl_15.out hb)
 have Rx_16 := am_ (Kd.S_below Rx_15.out hb)
 have Ryr_16 := am_ (Kd.R_below Ryr_15.out hb)
 have Ryl_16 := am_ (Kd.R_below Ryl_15.out hb)
 have Rr_16 := am_ (Kd.R_below Rr_15.out hb)
 have Rgr_16 := am_ (Kd.R_below Rgr_15.out hb)
 have Rgl_16 := am_ (Kd.R_below Rgl_15.out hb)
 have Rur_16 := am_ (Kd.R_below Rur_n.out hb)
 have Rul_16 := am_ (Kd.R_below Rul_n.out hb)
 have BL0_16 := am_ (blk_below BL0_15.out hb)
 have BL1_16 := am_ (blk_below BL1_15.out hb)
 have Bw_16 := am_ (blk_below Bw_15.out hb)
 have Bx_16 := am_ (blk_below Bx_15.out hb)
 have By_16 := am_ (blk_below By_15.out hb)
 have Bg_16 := am_ (blk_below Bg_15.out hb)
 have HB_16 := am_ (below_then HB_15.out HB_15.out.size hb)
 clear Rwr_15 Rwl_15 Rx_15 Ryr_15 Ryl_15 Rr_15 Rgr_15 Rgl_15 Rur_n Rul_n BL0_15 BL1_15 Bw_15 Bx_15 By_15 Bg_15 HB_15 hb
 refine hK.out _ _ ⟨(blk_cell By_16.out 0).trans rfl, (blk_cell By_16.out 1).trans rfl, (blk_cell BL1_16.out 0).trans rfl, (blk_cell BL1_16.out 1).trans rfl⟩ (fun hHeld => ?_)
 clear hK K
 refine norm_ (a' := ?_) ?_ ?_
 rotate_left
 ·show Act.put _ (some 73) _ = _
  simp only [Act.put, List.setIfInBounds_toArray, List.set_cons_zero, List.set_cons_succ, i64_w, i32_w]
  rfl
 refine pure_ (i := 4) (N := some 74) (v := ?_) (a' := ?_) #[true, true, true, true, true] rfl rfl (any_of HT_.out (by kernel_rfl)) (fun _ _ _ h => h) (Or.inl ⟨by rfl, ?_⟩) ?_ ?_
 rotate_left
 ·intro w'
  go_simp
  with_reducible rfl
 rotate_left
 ·simp only [Act.put, List.setIfInBounds_toArray, List.set_cons_zero, List.set_cons_succ, i64_w, i32_w]
  rfl
 refine done_ (done_of HT_.out (by kernel_rfl)) ?_
 clear HT_ HW_ hHeld
 go_wp2_with (go_at_call 54; refine park ?_)
 refine ⟨?_⟩
 have QV12 := am_ (show w.heap.size ≤ V12.heap.size from HB_16.out.size)
 refine (laws_toIntS.calls k _ _ rw rw _ (Kd.C_below CR.out HB_16.out) LR.out Gtoi.out).mono ?_
 rintro e V13 ⟨vi, rfl, hS, hb⟩
 obtain ⟨Ai, ci, rfl⟩ := Kd.R_slice hS
 have Rwr_17 := am_ (Kd.R_below Rwr_16.out hb)
 have Rwl_17 := am_ (Kd.R_below Rwl_16.out hb)
 have Rx_17 := am_ (Kd.S_below Rx_16.out hb)
 have Ryr_17 := am_ (Kd.R_below Ryr_16.out hb)
 have Ryl_17 := am_ (Kd.R_below Ryl_16.out hb)
 have Rr_17 := am_ (Kd.R_below Rr_16.out hb)
 have Rgr_17 := am_ (Kd.R_below Rgr_16.out hb)
 have Rgl_17 := am_ (Kd.R_below Rgl_16.out hb)
 have BL0_17 := am_ (blk_below BL0_16.out hb)
 have BL1_17 := am_ (blk_below BL1_16.out hb)
 have Bw_17 := am_ (blk_below Bw_16.out hb)
 have Bx_17 := am_ (blk_below Bx_16.out hb)
 have By_17 := am_ (blk_below By_16.out hb)
 have Bg_17 := am_ (blk_below Bg_16.out hb)
 have HB_17 := am_ (below_then HB_16.out HB_16.out.size hb)
 clear Rwr_16 Rwl_16 Rx_16 Ryr_16 Ryl_16 Rr_16 Rgr_16 Rgl_16 BL0_16 BL1_16 Bw_16 Bx_16 By_16 Bg_16 HB_16
 have Ri_n := am_ (Kd.R_lower (Kd.R_mono (ok' := fun j => V12.heap.size ≤ j ∧ j < V13.heap.size) (Kd.R_bound hS) (fun j hj => ⟨hj.2.1, hj.2.2.1⟩)) (show w.heap.size ≤ V12.heap.size from QV12.out))
 clear hS hb
 go_wp2_with (go_at_call 55; refine park ?_)
 refine ⟨?_⟩
 have QV13 := am_ (show w.heap.size ≤ V13.heap.size from HB_17.out.size)
 refine (laws_eqIntS.calls k _ _ rw _ _ rw true _ (Kd.R_reads' Rr_17.out).2.2 (Kd.R_reads' Rr_17.out).2.1 (Kd.R_reads' Ri_n.out).2.2 (Kd.R_reads' Ri_n.out).2.1 Geqi.out).mono ?_
 rintro e V14 ⟨rfl, hd⟩
 have hb := hd.below
 clear hd
 have Rwr_18 := am_ (Kd.R_below Rwr_17.out hb)
 have Rwl_18 := am_ (Kd.R_below Rwl_17.out hb)
 have Rx_18 := am_ (Kd.S_below Rx_17.out hb)
 have Ryr_18 := am_ (Kd.R_below Ryr_17.out hb)
 have Ryl_18 := am_ (Kd.R_below Ryl_17.out hb)
 have Rr_18 := am_ (Kd.R_below Rr_17.out hb)
 have Rgr_18 := am_ (Kd.R_below Rgr_17.out hb)
 have Rgl_18 := am_ (Kd.R_below Rgl_17.out hb)
 have Ri_18 := am_ (Kd.R_below Ri_n.out hb)
 have BL0_18 := am_ (blk_below BL0_17.out hb)
 have BL1_18 := am_ (blk_below BL1_17.out hb)
 have Bw_18 := am_ (blk_below Bw_17.out hb)
 have Bx_18 := am_ (blk_below Bx_17.out hb)
 have By_18 := am_ (blk_below By_17.out hb)
 have Bg_18 := am_ (blk_below Bg_17.out hb)
 have HB_18 := am_ (below_then HB_17.out HB_17.out.size hb)
 clear Rwr_17 Rwl_17 Rx_17 Ryr_17 Ryl_17 Rr_17 Rgr_17 Rgl_17 Ri_n BL0_17 BL1_17 Bw_17 Bx_17 By_17 Bg_17 HB_17 hb
 have NUM := am_ (show w.heap.size + 1 < V0.heap.size ∧ V0.heap.size ≤ gw ∧ gw < V1s.heap.size ∧ V1s.heap.size ≤ gx ∧ gx + 1 = V3a.heap.size ∧ V3a.heap.size ≤ gy ∧ gy + 1 = V4a.heap.size ∧ V4a.heap.size ≤ V4.heap.size ∧ V4.heap.size ≤ gg from by
  have h1 := NL1V0.out; have h2 := NGw.out; have h3 := ZV2.out; have h4 := ZV3a.out; have h5 := ZV3.out; have h6 := ZV4a.out; have h7 := ZV4.out; have h8 := ZV5.out
  omega)
 have hl0 : V14.cell? ⟨gx, 0, none⟩ = some (.slice Ax p.length cx) := (blk_cell Bx_18.out 0).trans rfl
 go_wp2_with (go_at_call 33; refine park ?_)
 clear hl0
 refine ⟨?_⟩
 have QV14 := am_ (show w.heap.size ≤ V14.heap.size from HB_18.out.size)
 refine (laws_markProg.calls k (fun j => V1s.heap.size ≤ j ∧ j < gx) _ p 1 k1 p1 w _ HB_18.out Rx_18.out Gmk.out).mono ?_
 rintro e V15 ⟨rfl, hS, hb, hk⟩
 have hn := NUM.out
 have Rwr_19 := am_ (Kd.R_step Rwr_18.out (fun j hj hlt => hk.2 j hlt (fun h2 => by omega)))
 have Rwl_19 := am_ (Kd.R_step Rwl_18.out (fun j hj hlt => hk.2 j hlt (fun h2 => by omega)))
 have Rx_19 := am_ hS
 have Ryr_19 := am_ (Kd.R_step Ryr_18.out (fun j hj hlt => hk.2 j hlt (fun h2 => by omega)))
 have Ryl_19 := am_ (Kd.R_step Ryl_18.out (fun j hj hlt => hk.2 j hlt (fun h2 => by omega)))
 have Rr_19 := am_ (Kd.R_step Rr_18.out (fun j hj hlt => hk.2 j hlt (fun h2 => by omega)))
 have Rgr_19 := am_ (Kd.R_step Rgr_18.out (fun j hj hlt => hk.2 j hlt (fun h2 => by omega)))
 have Rgl_19 := am_ (Kd.R_step Rgl_18.out (fun j hj hlt => hk.2 j hlt (fun h2 => by omega)))
 have BL0_19 := am_ ((hk.2 (w.heap.size) (blk_lt BL0_18.out) (fun h2 => by omega)).trans BL0_18.out)
 have BL1_19 := am_ ((hk.2 (w.heap.size + 1) (blk_lt BL1_18.out) (fun h2 => by omega)).trans BL1_18.out)
 have Bw_19 := am_ ((hk.2 (gw) (blk_lt Bw_18.out) (fun h2 => by omega)).trans Bw_18.out)
 have Bx_19 := am_ ((hk.2 (gx) (blk_lt Bx_18.out) (fun h2 => by omega)).trans Bx_18.out)
 have By_19 := am_ ((hk.2 (gy) (blk_lt By_18.out) (fun h2 => by omega)).trans By_18.out)
 have Bg_19 := am_ ((hk.2 (gg) (blk_lt Bg_18.out) (fun h2 => by omega)).trans Bg_18.out)
 have HB_19 := am_ hb
 clear Rwr_18 Rwl_18 Rx_18 Ryr_18 Ryl_18 Rr_18 Rgr_18 Rgl_18 BL0_18 BL1_18 Bw_18 Bx_18 By_18 Bg_18 HB_18 hb hk hn hS
 have hl0 : V15.cell? ⟨gy, 0, none⟩ = some (.slice Ayr sr.length cyr) := (blk_cell By_19.out 0).trans rfl
 have hl1 : V15.cell? ⟨gy, 1, none⟩ = some (.slice Ayl sl.length cyl) := (blk_cell By_19.out 1).trans rfl
 go_wp2_with (go_at_call 25; refine park ?_)
 clear hl0 hl1
 refine ⟨?_⟩
 have QV15 := am_ (show w.heap.size ≤ V15.heap.size from HB_19.out.size)
 refine (laws_markSeen.calls k (fun j => (V3a.heap.size ≤ j ∧ j < gy) ∧ some j = (Value.slice Ayr sr.length cyr).ownBlock) _ sr (fun j => (V3a.heap.size ≤ j ∧ j < gy) ∧ some j = (Value.slice Ayl sl.length cyl).ownBlock) _ sl k1 k2 sr1 sl1 w _ HB_19.out Ryr_19.out (fun j h1 h2 => APy.out j h1.2 h2.2) Ryl_19.out (fun j h1 h2 => APy.out j h2.2 h1.2) Gmks.out).mono ?_
 rintro e V16 ⟨rfl, hS, hT, hb, hk⟩
 have hn := NUM.out
 have Rwr_20 := am_ (Kd.R_step Rwr_19.out (fun j hj hlt => hk.2 j hlt (fun h2 => by omega)))
 have Rwl_20 := am_ (Kd.R_step Rwl_19.out (fun j hj hlt => hk.2 j hlt (fun h2 => by omega)))
 have Ryr_20 := am_ hS
 have Ryl_20 := am_ hT
 have Rr_20 := am_ (Kd.R_step Rr_19.out (fun j hj hlt => hk.2 j hlt (fun h2 => by omega)))
 have Rgr_20 := am_ (Kd.R_step Rgr_19.out (fun j hj hlt => hk.2 j hlt (fun h2 => by omega)))
 have Rgl_20 := am_ (Kd.R_step Rgl_19.out (fun j hj hlt => hk.2 j hlt (fun h2 => by omega)))
 have BL0_20 := am_ ((hk.2 (w.heap.size) (blk_lt BL0_19.out) (fun h2 => by omega)).trans BL0_19.out)
 have BL1_20 := am_ ((hk.2 (w.heap.size + 1) (blk_lt BL1_19.out) (fun h2 => by omega)).trans BL1_19.out)
 have Bw_20 := am_ ((hk.2 (gw) (blk_lt Bw_19.out) (fun h2 => by omega)).trans Bw_19.out)
 have Bx_20 := am_ ((hk.2 (gx) (blk_lt Bx_19.out) (fun h2 => by omega)).trans Bx_19.out)
 have By_20 := am_ ((hk.2 (gy) (blk_lt By_19.out) (fun h2 => by omega)).trans By_19.out)
 have Bg_20 := am_ ((hk.2 (gg) (blk_lt Bg_19.out) (fun h2 => by omega)).trans Bg_19.out)
 have HB_20 := am_ hb
 clear Rwr_19 Rwl_19 Ryr_19 Ryl_19 Rr_19 Rgr_19 Rgl_19 BL0_19 BL1_19 Bw_19 Bx_19 By_19 Bg_19 HB_19 hb hk hn hS hT
 go_wp2_with (go_at_call 56; refine park ?_)
 refine ⟨?_⟩
 have QV16 := am_ (show w.heap.size ≤ V16.heap.size from HB_20.out.size)
 refine (laws_markIntS.calls k (fun j => V4a.heap.size ≤ j ∧ j < V4.heap.size) _ rw k2 k3 r2 w _ HB_20.out Rr_20.out Gmki.out).mono ?_
 rintro e V17 ⟨rfl, hS, hb, hk⟩
 have hn := NUM.out
 have Rwr_21 := am_ (Kd.R_step Rwr_20.out (fun j hj hlt => hk.2 j hlt (fun h2 => by omega)))
 have Rwl_21 := am_ (Kd.R_step Rwl_20.out (fun j hj hlt => hk.2 j hlt (fun h2 => by omega)))
 have Rr_21 := am_ hS
 have Rgr_21 := am_ (Kd.R_step Rgr_20.out (fun j hj hlt => hk.2 j hlt (fun h2 => by omega)))
 have Rgl_21 := am_ (Kd.R_step Rgl_20.out (fun j hj hlt => hk.2 j hlt (fun h2 => by omega)))
 have BL0_21 := am_ ((hk.2 (w.heap.size) (blk_lt BL0_20.out) (fun h2 => by omega)).trans BL0_20.out)
 have BL1_21 := am_ ((hk.2 (w.heap.size + 1) (blk_lt BL1_20.out) (fun h2 => by omega)).trans BL1_20.out)
 have Bw_21 := am_ ((hk.2 (gw) (blk_lt Bw_20.out) (fun h2 => by omega)).trans Bw_20.out)
 have Bx_21 := am_ ((hk.2 (gx) (blk_lt Bx_20.out) (fun h2 => by omega)).trans Bx_20.out)
 have By_21 := am_ ((hk.2 (gy) (blk_lt By_20.out) (fun h2 => by omega)).trans By_20.out)
 have Bg_21 := am_ ((hk.2 (gg) (blk_lt Bg_20.out) (fun h2 => by omega)).trans Bg_20.out)
 have HB_21 := am_ hb
 clear Rwr_20 Rwl_20 Rr_20 Rgr_20 Rgl_20 BL0_20 BL1_20 Bw_20 Bx_20 By_20 Bg_20 HB_20 hb hk hn hS
 have hk2 : decide (k3 < 0) = false := decide_eq_false (by have := Gk3.out; omega)
 have hm1 : decide (m < 0) = false := decide_eq_false (by have := Gm0.out; omega)
 have hmm : (m != m) = false := by simp
 have hl0 : V17.cell? ⟨gg, 0, none⟩ = some (.slice Agr wr.length cgr) := (blk_cell Bg_21.out 0).trans rfl
 have hl1 : V17.cell? ⟨gg, 1, none⟩ = some (.slice Agl wl.length cgl) := (blk_cell Bg_21.out 1).trans rfl
 have hl2 : V17.cell? ⟨gw, 0, none⟩ = some (.slice Awr wr.length cwr) := (blk_cell Bw_21.out 0).trans rfl
 have hl3 : V17.cell? ⟨gw, 1, none⟩ = some (.slice Awl wl.length cwl) := (blk_cell Bw_21.out 1).trans rfl
 go_wp2_with (go_at_call 24; refine park ?_)
 clear hl0 hl1 hl2 hl3
 refine ⟨?_⟩
 have QV17 := am_ (show w.heap.size ≤ V17.heap.size from HB_21.out.size)
 refine (laws_eqSeen.calls k _ _ wr _ _ wl _ _ wr _ _ wl true _ (Kd.R_reads' Rgr_21.out).2.2 (Kd.R_reads' Rgr_21.out).2.1 (Kd.R_reads' Rgl_21.out).2.2 (Kd.R_reads' Rgl_21.out).2.1 (Kd.R_reads' Rwr_21.out).2.2 (Kd.R_reads' Rwr_21.out).2.1 (Kd.R_reads' Rwl_21.out).2.2 (Kd.R_reads' Rwl_21.out).2.1 Geqw.out).mono ?_
 rintro e V18 ⟨rfl, hb⟩
 have Rwr_22 := am_ (Kd.R_below Rwr_21.out hb)
 have Rwl_22 := am_ (Kd.R_below Rwl_21.out hb)
 have Rgr_22 := am_ (Kd.R_below Rgr_21.out hb)
 have Rgl_22 := am_ (Kd.R_below Rgl_21.out hb)
 have BL0_22 := am_ (blk_below BL0_21.out hb)
 have BL1_22 := am_ (blk_below BL1_21.out hb)
 have Bw_22 := am_ (blk_below Bw_21.out hb)
 have Bx_22 := am_ (blk_below Bx_21.out hb)
 have By_22 := am_ (blk_below By_21.out hb)
 have Bg_22 := am_ (blk_below Bg_21.out hb)
 have HB_22 := am_ (below_then HB_21.out HB_21.out.size hb)
 clear Rwr_21 Rwl_21 Rgr_21 Rgl_21 BL0_21 BL1_21 Bw_21 Bx_21 By_21 Bg_21 HB_21 hb
 have hl0 : V18.cell? ⟨gg, 0, none⟩ = some (.slice Agr wr.length cgr) := (blk_cell Bg_22.out 0).trans rfl
 have hl1 : V18.cell? ⟨gg, 1, none⟩ = some (.slice Agl wl.length cgl) := (blk_cell Bg_22.out 1).trans rfl
 go_wp2_with (go_at_call 25; refine park ?_)
 clear hl0 hl1
 refine ⟨?_⟩
 have QV18 := am_ (show w.heap.size ≤ V18.heap.size from HB_22.out.size)
 refine (laws_markSeen.calls k (fun j => (V4.heap.size ≤ j ∧ j < gg) ∧ some j = (Value.slice Agr wr.length cgr).ownBlock) _ wr (fun j => (V4.heap.size ≤ j ∧ j < gg) ∧ some j = (Value.slice Agl wl.length cgl).ownBlock) _ wl 1 m w2 w3 w _ HB_22.out Rgr_22.out (fun j h1 h2 => APg.out j h1.2 h2.2) Rgl_22.out (fun j h1 h2 => APg.out j h2.2 h1.2) Gmkw.out).mono ?_
 rintro e V19 ⟨rfl, hS, hT, hb, hk⟩
 have hn := NUM.out
 have Rwr_23 := am_ (Kd.R_step Rwr_22.out (fun j hj hlt => hk.2 j hlt (fun h2 => by omega)))
 have Rwl_23 := am_ (Kd.R_step Rwl_22.out (fun j hj hlt => hk.2 j hlt (fun h2 => by omega)))
 have Rgr_23 := am_ hS
 have Rgl_23 := am_ hT
 have BL0_23 := am_ ((hk.2 (w.heap.size) (blk_lt BL0_22.out) (fun h2 => by omega)).trans BL0_22.out)
 have BL1_23 := am_ ((hk.2 (w.heap.size + 1) (blk_lt BL1_22.out) (fun h2 => by omega)).trans BL1_22.out)
 have Bw_23 := am_ ((hk.2 (gw) (blk_lt Bw_22.out) (fun h2 => by omega)).trans Bw_22.out)
 have Bx_23 := am_ ((hk.2 (gx) (blk_lt Bx_22.out) (fun h2 => by omega)).trans Bx_22.out)
 have By_23 := am_ ((hk.2 (gy) (blk_lt By_22.out) (fun h2 => by omega)).trans By_22.out)
 have Bg_23 := am_ ((hk.2 (gg) (blk_lt Bg_22.out) (fun h2 => by omega)).trans Bg_22.out)
 have HB_23 := am_ hb
 clear Rwr_22 Rwl_22 Rgr_22 Rgl_22 BL0_22 BL1_22 Bw_22 Bx_22 By_22 Bg_22 HB_22 hb hk hn hS hT
 have ELr := am_ (show wr.length = w2.length from (Kd.R_reads' Rgr_23.out).1)
 have Rgr_u := am_ (Kd.R_mono (ok' := fun _ => True) Rgr_23.out (fun _ _ => trivial))
 clear Rgr_23
 have ELl := am_ (show wl.length = w3.length from (Kd.R_reads' Rgl_23.out).1)
 have Rgl_u := am_ (Kd.R_mono (ok' := fun _ => True) Rgl_23.out (fun _ _ => trivial))
 clear Rgl_23
 have hl0 : V19.cell? ⟨gg, 0, none⟩ = some (.slice Agr wr.length cgr) := (blk_cell Bg_23.out 0).trans rfl
 have hl1 : V19.cell? ⟨gg, 1, none⟩ = some (.slice Agl wl.length cgl) := (blk_cell Bg_23.out 1).trans rfl
 go_wp2_with (go_at_call 26; refine park ?_)
 clear hl0 hl1
 refine ⟨?_⟩
 have QV19 := am_ (show w.heap.size ≤ V19.heap.size from HB_23.out.size)
 have hw2 := (Kd.R_reads' Rgr_u.out)
 have hw3 := (Kd.R_reads' Rgl_u.out)
 rw [ELr.out] at hw2 ⊢
 rw [ELl.out] at hw3 ⊢
 refine (laws_heldSeen.calls k _ _ w2 _ _ w3 1 m _ hw2.2.2 hw2.2.1 hw3.2.2 hw3.2.1 Gheld.out).mono ?_
 rintro e V20 ⟨rfl, hb⟩
 have Rwr_24 := am_ (Kd.R_below Rwr_23.out hb)
 have Rwl_24 := am_ (Kd.R_below Rwl_23.out hb)
 have Rgr_24 := am_ (Kd.R_below Rgr_u.out hb)
 have Rgl_24 := am_ (Kd.R_below Rgl_u.out hb)
 have BL0_24 := am_ (blk_below BL0_23.out hb)
 have BL1_24 := am_ (blk_below BL1_23.out hb)
 have Bw_24 := am_ (blk_below Bw_23.out hb)
 have Bx_24 := am_ (blk_below Bx_23.out hb)
 have By_24 := am_ (blk_below By_23.out hb)
 have Bg_24 := am_ (blk_below Bg_23.out hb)
 have HB_24 := am_ (below_then HB_23.out HB_23.out.size hb)
 clear Rwr_23 Rwl_23 Rgr_u Rgl_u BL0_23 BL1_23 Bw_23 Bx_23 By_23 Bg_23 HB_23 hb hw2 hw3
 go_wp2_with fail
 have hb := below_drew (Below.refl V20.heap.size V20)
 have Rwr_25 := am_ (Kd.R_below Rwr_24.out hb)
 have Rwl_25 := am_ (Kd.R_below Rwl_24.out hb)
 have Rgr_25 := am_ (Kd.R_below Rgr_24.out hb)
 have Rgl_25 := am_ (Kd.R_below Rgl_24.out hb)
 have BL0_25 := am_ (blk_below BL0_24.out hb)
 have BL1_25 := am_ (blk_below BL1_24.out hb)
 have Bw_25 := am_ (blk_below Bw_24.out hb)
 have Bx_25 := am_ (blk_below Bx_24.out hb)
 have By_25 := am_ (blk_below By_24.out hb)
 have Bg_25 := am_ (blk_below Bg_24.out hb)
 have HB_25 := am_ (below_then HB_24.out HB_24.out.size hb)
 clear Rwr_24 Rwl_24 Rgr_24 Rgl_24 BL0_24 BL1_24 Bw_24 Bx_24 By_24 Bg_24 HB_24 hb
 refine start_ (n := 13) (S := fun w' => w'.cell? ⟨w.heap.size, 0, none⟩ = some (.slice A0 l.length c0) ∧ w'.cell? ⟨w.heap.size + 1, 0, none⟩ = some (.slice A1 sr.length c1) ∧ w'.cell? ⟨w.heap.size + 1, 1, none⟩ = some (.slice A2 sl.length c2)) (ds := []) #[false, false, false, false, false, false, false, false, false, false, false, false, false] (by kernel_rfl) rfl rfl ⟨(blk_cell BL0_25.out 0).trans rfl, (blk_cell BL1_25.out 0).trans rfl, (blk_cell BL1_25.out 1).trans rfl⟩ (fun hHeld => ?_)
 refine with_tabW laws_FnExactTurnSeen.tab37 laws_FnExactTurnSeen.bits37 (fun HT_ HW_ => ?_)
 generalize V20.drew = V21 at *
 have QV21 := am_ (show w.heap.size ≤ V21.heap.size from HB_25.out.size)
 have NL0V21 := am_ (show w.heap.size < V21.heap.size from blk_lt BL0_25.out)
 have NL1V21 := am_ (show w.heap.size + 1 < V21.heap.size from blk_lt BL1_25.out)
 have NwV21 := am_ (show gw < V21.heap.size from blk_lt Bw_25.out)
 have NxV21 := am_ (show gx < V21.heap.size from blk_lt Bx_25.out)
 have NyV21 := am_ (show gy < V21.heap.size from blk_lt By_25.out)
 have NgV21 := am_ (show gg < V21.heap.size from blk_lt Bg_25.out)
 refine take_ (i := 0) (N := some 114) (v := ?_) (a' := ?_) #[true, false, false, false, false, false, false, false, false, false, false, false, false] rfl rfl (take_ofW HT_.out HW_.out (by kernel_rfl)) (fun _ _ _ h => h) (Or.inl ⟨by rfl, ?_⟩) hHeld ?_ ?_
 rotate_left
 ·intro w' s0
  have s1 := s0.1
  go_simp
  with_reducible rfl
 rotate_left
 ·simp only [Act.put, List.setIfInBounds_toArray, List.set_cons_zero, List.set_cons_succ, i64_w, i32_w]
  rfl
 refine take_ (i := 2) (N := some 116) (v := ?_) (a' := ?_) #[true, false, true, false, false, false, false, false, false, false, false, false, false] rfl rfl (take_ofW HT_.out HW_.out (by kernel_rfl)) (fun _ _ _ h => h) (Or.inl ⟨by rfl, ?_⟩) hHeld ?_ ?_
 rotate_left
 ·intro w' s0
  have s1 := s0.2.1
  have s2 := s0.2.2
  go_simp
  with_reducible rfl
 rotate_left
 ·simp only [Act.put, List.setIfInBounds_toArray, List.set_cons_zero, List.set_cons_succ, i64_w, i32_w]
  rfl
 refine pure_ (i := 4) (N := some 118) (v := ?_) (a' := ?_) #[true, false, true, false, true, false, false, false, false, false, false, false, false] rfl rfl (any_of HT_.out (by kernel_rfl)) (fun _ _ _ h => h) (Or.inl ⟨by rfl, ?_⟩) ?_ ?_
 rotate_left
 ·intro w'
  go_simp
  with_reducible rfl
 rotate_left
 ·simp only [Act.put, List.setIfInBounds_toArray, List.set_cons_zero, List.set_cons_succ, i64_w, i32_w]
  rfl
 refine join_ (σ := Value × Value × Value × Value × Value × Value × Nat) 2 #[true, true, true, true, true, true, true, true, true, true, true, false, false] (fun s_ => [(115, .agg #[s_.1]), (117, .agg #[s_.2.1, s_.2.2.1]), (119, s_.2.2.2.1), (120, .tuple #[.agg #[s_.2.2.2.2.1, s_.2.2.2.2.2.1], .bool told]), (113, .tuple #[.agg #[s_.2.2.2.2.1, s_.2.2.2.2.2.1], .bool told]), (121, .agg #[s_.2.2.2.2.1, s_.2.2.2.2.2.1]), (122, .bool told), (18, .pointer (some ⟨s_.2.2.2.2.2.2, 0, none⟩))]) (fun s_ w' => (w'.cell? ⟨w.heap.size, 0, none⟩ = some (.slice A0 l.length c0) ∧ w'.cell? ⟨w.heap.size + 1, 0, none⟩ = some (.slice A1 sr.length c1) ∧ w'.cell? ⟨w.heap.size + 1, 1, none⟩ = some (.slice A2 sl.length c2)) ∧ w'.heap[w.heap.size]? = some (Obj.cells #[Value.slice A0 l.length c0] 52) ∧ w'.heap[w.heap.size + 1]? = some (Obj.cells #[Value.slice A1 sr.length c1, Value.slice A2 sl.length c2] 68) ∧ w'.heap[gw]? = some (Obj.cells #[Value.slice Awr wr.length cwr, Value.slice Awl wl.length cwl] 24) ∧ w'.heap[gx]? = some (Obj.cells #[Value.slice Ax p.length cx] 35) ∧ w'.heap[gy]? = some (Obj.cells #[Value.slice Ayr sr.length cyr, Value.slice Ayl sl.length cyl] 24) ∧ w'.heap[gg]? = some (Obj.cells #[Value.slice Agr wr.length cgr, Value.slice Agl wl.length cgl] 24) ∧ Kd.R (Kd.int .i64) 3 w' w.heap.size (fun j => (V0.heap.size ≤ j ∧ j < V1s.heap.size ∧ j ≠ gw) ∧ some j = (Value.slice Awr wr.length cwr).ownBlock) (.slice Awr wr.length cwr) wr ∧ Kd.R (Kd.int .i64) 3 w' w.heap.size (fun j => (V0.heap.size ≤ j ∧ j < V1s.heap.size ∧ j ≠ gw) ∧ some j = (Value.slice Awl wl.length cwl).ownBlock) (.slice Awl wl.length cwl) wl ∧ Kd.R (Kd.int .i64) 3 w' w.heap.size (fun _ => True) (.slice Agr wr.length cgr) w2 ∧ Kd.R (Kd.int .i64) 3 w' w.heap.size (fun _ => True) (.slice Agl wl.length cgl) w3 ∧ w'.heap[s_.2.2.2.2.2.2]? = some (Obj.cells #[Value.slice none 0 0, Value.slice none 0 0] 24) ∧ Kd.R (Kd.int .i64) 3 w' w.heap.size (fun j => V21.heap.size ≤ j ∧ j < w'.heap.size ∧ j ≠ s_.2.2.2.2.2.2 ∧ some j = (s_.2.2.2.2.1 : Value).ownBlock) s_.2.2.2.2.1 wr ∧ Kd.R (Kd.int .i64) 3 w' w.heap.size (fun j => V21.heap.size ≤ j ∧ j < w'.heap.size ∧ j ≠ s_.2.2.2.2.2.2 ∧ some j = (s_.2.2.2.2.2.1 : Value).ownBlock) s_.2.2.2.2.2.1 wl ∧ (∀ j, some j = (s_.2.2.2.2.1 : Value).ownBlock → some j ≠ (s_.2.2.2.2.2.1 : Value).ownBlock) ∧ Below w.heap.size w w' ∧ V21.heap.size ≤ s_.2.2.2.2.2.2 ∧ s_.2.2.2.2.2.2 < w'.heap.size) ?_ ?_
 rotate_left
 ·intro hCont
  refine two_ (i := 1) (j := 10) (Ni := some 115) (Nj := some 18) #[true, true, true, false, true, false, false, false, false, false, false, false, false] #[true, false, true, false, true, false, false, false, false, false, true, false, false] rfl rfl rfl rfl (two_of HT_.out (by kernel_rfl)) (by decide) (by decide) (fun K hK => ?_) (fun K hK => ?_)
  ·refine goes_ Try.func45 (by kernel_rfl) rfl #[.agg #[.slice A0 l.length c0]] (by rfl) rfl rfl (by (try simp only [List.map_toArray, List.map_cons, List.map_nil]); first | done | rfl) ?_
   with_reducible refine (laws_toProg.calls k _ _ l p _ (Kd.C_below CL.out HB_25.out) LL.out Gto.out).mono ?_
   rintro e V21n1 ⟨va, rfl, hS, hb⟩
   refine ⟨_, rfl, ?_⟩
   obtain ⟨Aa, ca, rfl⟩ := Kd.S_slice hS
   have Rwr_26 := am_ (Kd.R_below Rwr_25.out hb)
   have Rwl_26 := am_ (Kd.R_below Rwl_25.out hb)
   have Rgr_26 := am_ (Kd.R_below Rgr_25.out hb)
   have Rgl_26 := am_ (Kd.R_below Rgl_25.out hb)
   have BL0_26 := am_ (blk_below BL0_25.out hb)
   have BL1_26 := am_ (blk_below BL1_25.out hb)
   have Bw_26 := am_ (blk_below Bw_25.out hb)
   have Bx_26 := am_ (blk_below Bx_25.out hb)
   have By_26 := am_ (blk_below By_25.out hb)
   have Bg_26 := am_ (blk_below Bg_25.out hb)
   have HB_26 := am_ (below_then HB_25.out HB_25.out.size hb)
   clear Rwr_25 Rwl_25 Rgr_25 Rgl_25 BL0_25 BL1_25 Bw_25 Bx_25 By_25 Bg_25 HB_25
   have Ra_n := am_ hS
   clear hS
   have VV_v27 := am_ (show V21.heap.size ≤ V21n1.heap.size from hb.size)
   clear hb
   refine hK.out _ _ ⟨(blk_cell BL0_26.out 0).trans rfl, (blk_cell BL1_26.out 0).trans rfl, (blk_cell BL1_26.out 1).trans rfl⟩ (fun hHeld => ?_)
   clear hK K
   refine norm_ (a' := ?_) ?_ ?_
   rotate_left
   ·show Act.put _ (some 115) _ = _
    simp only [Act.put, List.setIfInBounds_toArray, List.set_cons_zero, List.set_cons_succ, i64_w, i32_w]
    rfl
   refine two_ (i := 3) (j := 10) (Ni := some 117) (Nj := some 18) #[true, true, true, true, true, false, false, false, false, false, false, false, false] #[true, true, true, false, true, false, false, false, false, false, true, false, false] rfl rfl rfl rfl (two_of HT_.out (by kernel_rfl)) (by decide) (by decide) (fun K hK => ?_) (fun K hK => ?_)
   ·refine goes_ Try.func65 (by kernel_rfl) rfl #[.agg #[.slice A1 sr.length c1, .slice A2 sl.length c2]] (by rfl) rfl rfl (by (try simp only [List.map_toArray, List.map_cons, List.map_nil]); first | done | rfl) ?_
    with_reducible refine (laws_toSeen.calls k _ _ sr _ _ sl sr sl _ (Kd.C_below CM.out HB_26.out) LM.out (Kd.C_below CN.out HB_26.out) LN.out Gtos.out).mono ?_
    rintro e V21n2 ⟨vb, vc, rfl, hS, hT, hb⟩
    refine ⟨_, rfl, ?_⟩
    obtain ⟨Ab, cb, rfl⟩ := Kd.R_slice hS
    obtain ⟨Ac, cc, rfl⟩ := Kd.R_slice hT
    have Rwr_28 := am_ (Kd.R_below Rwr_26.out hb)
    have Rwl_28 := am_ (Kd.R_below Rwl_26.out hb)
    have Rgr_28 := am_ (Kd.R_below Rgr_26.out hb)
    have Rgl_28 := am_ (Kd.R_below Rgl_26.out hb)
    have Ra_28 := am_ (Kd.S_below Ra_n.out hb)
    have BL0_28 := am_ (blk_below BL0_26.out hb)
    have BL1_28 := am_ (blk_below BL1_26.out hb)
    have Bw_28 := am_ (blk_below Bw_26.out hb)
    have Bx_28 := am_ (blk_below Bx_26.out hb)
    have By_28 := am_ (blk_below By_26.out hb)
    have Bg_28 := am_ (blk_below Bg_26.out hb)
    have HB_28 := am_ (below_then HB_26.out HB_26.out.size hb)
    clear Rwr_26 Rwl_26 Rgr_26 Rgl_26 Ra_n BL0_26 BL1_26 Bw_26 Bx_26 By_26 Bg_26 HB_26
    have Rb_n := am_ hS
    have Rc_n := am_ hT
    clear hS hT
    have VV_v29 := am_ (show V21.heap.size ≤ V21n2.heap.size from Nat.le_trans VV_v27.out hb.size)
    clear hb
    refine hK.out _ _ ⟨(blk_cell BL0_28.out 0).trans rfl, (blk_cell BL1_28.out 0).trans rfl, (blk_cell BL1_28.out 1).trans rfl⟩ (fun hHeld => ?_)
    clear hK K
    refine norm_ (a' := ?_) ?_ ?_
    rotate_left
    ·show Act.put _ (some 117) _ = _
     simp only [Act.put, List.setIfInBounds_toArray, List.set_cons_zero, List.set_cons_succ, i64_w, i32_w]
     rfl
    refine two_ (i := 5) (j := 10) (Ni := some 119) (Nj := some 18) #[true, true, true, true, true, true, false, false, false, false, false, false, false] #[true, true, true, true, true, false, false, false, false, false, true, false, false] rfl rfl rfl rfl (two_of HT_.out (by kernel_rfl)) (by decide) (by decide) (fun K hK => ?_) (fun K hK => ?_)
    ·refine goes_ Try.func54 (by kernel_rfl) rfl #[.slice A3 rw.length c3] (by rfl) rfl rfl (by (try simp only [List.map_toArray, List.map_cons, List.map_nil]); first | done | rfl) ?_
     with_reducible refine (laws_toIntS.calls k _ _ rw rw _ (Kd.C_below CR.out HB_28.out) LR.out Gtoi.out).mono ?_
     rintro e V21n3 ⟨vd, rfl, hS, hb⟩
     refine ⟨_, rfl, ?_⟩
     obtain ⟨Ad, cd, rfl⟩ := Kd.R_slice hS
     have Rwr_30 := am_ (Kd.R_below Rwr_28.out hb)
     have Rwl_30 := am_ (Kd.R_below Rwl_28.out hb)
     have Rgr_30 := am_ (Kd.R_below Rgr_28.out hb)
     have Rgl_30 := am_ (Kd.R_below Rgl_28.out hb)
     have Ra_30 := am_ (Kd.S_below Ra_28.out hb)
     have Rb_30 := am_ (Kd.R_below Rb_n.out hb)
     have Rc_30 := am_ (Kd.R_below Rc_n.out hb)
     have BL0_30 := am_ (blk_below BL0_28.out hb)
     have BL1_30 := am_ (blk_below BL1_28.out hb)
     have Bw_30 := am_ (blk_below Bw_28.out hb)
     have Bx_30 := am_ (blk_below Bx_28.out hb)
     have By_30 := am_ (blk_below By_28.out hb)
     have Bg_30 := am_ (blk_below Bg_28.out hb)
     have HB_30 := am_ (below_then HB_28.out HB_28.out.size hb)
     clear Rwr_28 Rwl_28 Rgr_28 Rgl_28 Ra_28 Rb_n Rc_n BL0_28 BL1_28 Bw_28 Bx_28 By_28 Bg_28 HB_28
     have Rd_n := am_ hS
     clear hS
     have VV_v31 := am_ (show V21.heap.size ≤ V21n3.heap.size from Nat.le_trans VV_v29.out hb.size)
     clear hb
     refine hK.out _ _ ⟨(blk_cell BL0_30.out 0).trans rfl, (blk_cell BL1_30.out 0).trans rfl, (blk_cell BL1_30.out 1).trans rfl⟩ (fun hHeld => ?_)
     clear hK K
     refine norm_ (a' := ?_) ?_ ?_
     rotate_left
     ·show Act.put _ (some 119) _ = _
      simp only [Act.put, List.setIfInBounds_toArray, List.set_cons_zero, List.set_cons_succ, i64_w, i32_w]
      rfl
     refine two_ (i := 6) (j := 10) (Ni := some 120) (Nj := some 18) #[true, true, true, true, true, true, true, false, false, false, false, false, false] #[true, true, true, true, true, true, false, false, false, false, true, false, false] rfl rfl rfl rfl (two_of HT_.out (by kernel_rfl)) (by decide) (by decide) (fun K hK => ?_) (fun K hK => ?_)
     ·refine goes_ Try.func61 (by kernel_rfl) rfl #[.agg #[.slice Aa p.length ca], .agg #[.slice Ab sr.length cb, .slice Ac sl.length cc], .slice Ad rw.length cd] (by rfl) rfl rfl (by (try simp only [List.map_toArray, List.map_cons, List.map_nil]); first | done | rfl) ?_
      with_reducible refine (impl_TurnSeen.calls k _ _ p _ _ _ sr _ _ sl _ _ rw wr wl told _ (Kd.S_reads' Ra_30.out).2.2 (Kd.S_reads' Ra_30.out).2.1 (Kd.R_V Rb_30.out) (Kd.R_reads' Rc_30.out).2.2 (Kd.R_reads' Rc_30.out).2.1 (Kd.R_reads' Rd_n.out).2.2 (Kd.R_reads' Rd_n.out).2.1 Gim.out).mono ?_
      rintro e V21n4 ⟨ve, vf, rfl, hS, hT, hb⟩
      refine ⟨_, rfl, ?_⟩
      obtain ⟨Ae, ce, rfl⟩ := Kd.R_slice hS
      obtain ⟨Af, cf, rfl⟩ := Kd.R_slice hT
      have hle : w.heap.size ≤ V21n3.heap.size := HB_30.out.size
      have hvv : V21.heap.size ≤ V21n3.heap.size := VV_v31.out
      have Rwr_32 := am_ (Kd.R_below Rwr_30.out hb)
      have Rwl_32 := am_ (Kd.R_below Rwl_30.out hb)
      have Rgr_32 := am_ (Kd.R_below Rgr_30.out hb)
      have Rgl_32 := am_ (Kd.R_below Rgl_30.out hb)
      have BL0_32 := am_ (blk_below BL0_30.out hb)
      have BL1_32 := am_ (blk_below BL1_30.out hb)
      have Bw_32 := am_ (blk_below Bw_30.out hb)
      have Bx_32 := am_ (blk_below Bx_30.out hb)
      have By_32 := am_ (blk_below By_30.out hb)
      have Bg_32 := am_ (blk_below Bg_30.out hb)
      have HB_32 := am_ (below_then HB_30.out HB_30.out.size hb)
      clear Rwr_30 Rwl_30 Rgr_30 Rgl_30 BL0_30 BL1_30 Bw_30 Bx_30 By_30 Bg_30 HB_30
      have hap := am_ (show ∀ j, some j = (Value.slice Ae wr.length ce).ownBlock → some j ≠ (Value.slice Af wl.length cf).ownBlock from fun j hj => (hS.1 j hj.symm).2)
      have Re_n := am_ (Kd.R_lower (Kd.R_mono (ok' := fun j => V21.heap.size ≤ j ∧ j < V21n4.heap.size ∧ some j = (Value.slice Ae wr.length ce).ownBlock) (Kd.R_bound (Kd.R_tight rfl hS)) (fun j hj => ⟨Nat.le_trans hvv hj.2.1, hj.2.2.1, hj.1⟩)) hle)
      have Rf_n := am_ (Kd.R_lower (Kd.R_mono (ok' := fun j => V21.heap.size ≤ j ∧ j < V21n4.heap.size ∧ some j = (Value.slice Af wl.length cf).ownBlock) (Kd.R_bound (Kd.R_tight rfl hT)) (fun j hj => ⟨Nat.le_trans hvv hj.2.1, hj.2.2.1, hj.1⟩)) hle)
      clear hS hT hle hvv
      have VV_v33 := am_ (show V21.heap.size ≤ V21n4.heap.size from Nat.le_trans VV_v31.out hb.size)
      clear hb
      refine hK.out _ _ ⟨(blk_cell BL0_32.out 0).trans rfl, (blk_cell BL1_32.out 0).trans rfl, (blk_cell BL1_32.out 1).trans rfl⟩ (fun hHeld => ?_)
      clear hK K
      refine norm_ (a' := ?_) ?_ ?_
      rotate_left
      ·show Act.put _ (some 120) _ = _
       simp only [Act.put, List.setIfInBounds_toArray, List.set_cons_zero, List.set_cons_succ, i64_w, i32_w]
       rfl
      refine pure_ (i := 7) (N := some 113) (v := ?_) (a' := ?_) #[true, true, true, true, true, true, true, true, false, false, false, false, false] rfl rfl (any_of HT_.out (by kernel_rfl)) (fun _ _ _ h => h) (Or.inl ⟨by rfl, ?_⟩) ?_ ?_
      rotate_left
      ·intro w'
       go_simp
       with_reducible rfl
      rotate_left
      ·simp only [Act.put, List.setIfInBounds_toArray, List.set_cons_zero, List.set_cons_succ, i64_w, i32_w]
       rfl
      refine pure_ (i := 8) (N := some 121) (v := ?_) (a' := ?_) #[true, true, true, true, true, true, true, true, true, false, false, false, false] rfl rfl (any_of HT_.out (by kernel_rfl)) (fun _ _ _ h => h) (Or.inl ⟨by rfl, ?_⟩) ?_ ?_
      rotate_left
      ·intro w'
       go_simp
       with_reducible rfl
      rotate_left
      ·simp only [Act.put, List.setIfInBounds_toArray, List.set_cons_zero, List.set_cons_succ, i64_w, i32_w]
       rfl
      refine pure_ (i := 9) (N := some 122) (v := ?_) (a' := ?_) #[true, true, true, true, true, true, true, true, true, true, false, false, false] rfl rfl (any_of HT_.out (by kernel_rfl)) (fun _ _ _ h => h) (Or.inl ⟨by rfl, ?_⟩) ?_ ?_
      rotate_left
      ·intro w'
       go_simp
       with_reducible rfl
      rotate_left
      ·simp only [Act.put, List.setIfInBounds_toArray, List.set_cons_zero, List.set_cons_succ, i64_w, i32_w]
       rfl
      refine one_ (i := 10) (N := some 18) #[true, true, true, true, true, true, true, true, true, true, true, false, false] rfl rfl (one_of HT_.out (by kernel_rfl)) (by decide) (fun K hK => ?_)
      refine box_step (by rfl) (N := 18) rfl (cs := #[Value.slice none 0 0, Value.slice none 0 0]) (t := 24) ?hr ?_
      case hr => first | (go_simp; done) | (go_simp; rfl)
      intro gx hgx V21n5 hbx hb
      have GX := am_ (show V21.heap.size ≤ gx from by rw [hgx]; exact VV_v33.out)
      have hrce := Kd.R_mono (ok' := fun j => V21.heap.size ≤ j ∧ j < V21n5.heap.size ∧ j ≠ gx ∧ some j = (Value.slice Ae wr.length ce).ownBlock) Re_n.out (fun j hj => ⟨hj.1, by have := hj.2.1; have := hb.size; omega, by have := hj.2.1; omega, hj.2.2⟩)
      have hrcf := Kd.R_mono (ok' := fun j => V21.heap.size ≤ j ∧ j < V21n5.heap.size ∧ j ≠ gx ∧ some j = (Value.slice Af wl.length cf).ownBlock) Rf_n.out (fun j hj => ⟨hj.1, by have := hj.2.1; have := hb.size; omega, by have := hj.2.1; omega, hj.2.2⟩)
      have Rwr_34 := am_ (Kd.R_below Rwr_32.out hb)
      have Rwl_34 := am_ (Kd.R_below Rwl_32.out hb)
      have Rgr_34 := am_ (Kd.R_below Rgr_32.out hb)
      have Rgl_34 := am_ (Kd.R_below Rgl_32.out hb)
      have BL0_34 := am_ (blk_below BL0_32.out hb)
      have BL1_34 := am_ (blk_below BL1_32.out hb)
      have Bw_34 := am_ (blk_below Bw_32.out hb)
      have Bx_34 := am_ (blk_below Bx_32.out hb)
      have By_34 := am_ (blk_below By_32.out hb)
      have Bg_34 := am_ (blk_below Bg_32.out hb)
      have HB_34 := am_ (below_then HB_32.out HB_32.out.size hb)
      clear Rwr_32 Rwl_32 Rgr_32 Rgl_32 BL0_32 BL1_32 Bw_32 Bx_32 By_32 Bg_32 HB_32
      have BX_n := am_ hbx
      have Re_m := am_ (Kd.R_below hrce hb)
      have Rf_m := am_ (Kd.R_below hrcf hb)
      clear hrce hrcf Re_n Rf_n
      have GL_n := am_ (show gx < V21n5.heap.size from blk_lt hbx)
      clear hbx hgx
      have VV_v35 := am_ (show V21.heap.size ≤ V21n5.heap.size from Nat.le_trans VV_v33.out hb.size)
      clear hb
      refine hK.out _ _ ⟨(blk_cell BL0_34.out 0).trans rfl, (blk_cell BL1_34.out 0).trans rfl, (blk_cell BL1_34.out 1).trans rfl⟩ (fun hHeld => ?_)
      clear hK K
      refine norm_ (a' := ?_) ?_ ?_
      rotate_left
      ·show Act.put _ (some 18) _ = _
       simp only [Act.put, List.setIfInBounds_toArray, List.set_cons_zero, List.set_cons_succ, i64_w, i32_w]
       rfl
      have zz := hCont (.slice Aa p.length ca, .slice Ab sr.length cb, .slice Ac sl.length cc, .slice Ad rw.length cd, .slice Ae wr.length ce, .slice Af wl.length cf, gx) _ ⟨⟨(blk_cell BL0_34.out 0).trans rfl, (blk_cell BL1_34.out 0).trans rfl, (blk_cell BL1_34.out 1).trans rfl⟩, BL0_34.out, BL1_34.out, Bw_34.out, Bx_34.out, By_34.out, Bg_34.out, Rwr_34.out, Rwl_34.out, Rgr_34.out, Rgl_34.out, BX_n.out, Re_m.out, Rf_m.out, hap.out, HB_34.out, GX.out, GL_n.out⟩
      simp only [putAll, Act.put, List.setIfInBounds_toArray, List.set_cons_zero, List.set_cons_succ] at zz
      exact zz
     ·refine box_step (by rfl) (N := 18) rfl (cs := #[Value.slice none 0 0, Value.slice none 0 0]) (t := 24) ?hr ?_
      case hr => first | (go_simp; done) | (go_simp; rfl)
      intro gx hgx V21n6 hbx hb
      have GX := am_ (show V21.heap.size ≤ gx from by rw [hgx]; exact VV_v31.out)
      have Rwr_32 := am_ (Kd.R_below Rwr_30.out hb)
      have Rwl_32 := am_ (Kd.R_below Rwl_30.out hb)
      have Rgr_32 := am_ (Kd.R_below Rgr_30.out hb)
      have Rgl_32 := am_ (Kd.R_below Rgl_30.out hb)
      have Ra_32 := am_ (Kd.S_below Ra_30.out hb)
      have Rb_32 := am_ (Kd.R_below Rb_30.out hb)
      have Rc_32 := am_ (Kd.R_below Rc_30.out hb)
      have Rd_32 := am_ (Kd.R_below Rd_n.out hb)
      have BL0_32 := am_ (blk_below BL0_30.out hb)
      have BL1_32 := am_ (blk_below BL1_30.out hb)
      have Bw_32 := am_ (blk_below Bw_30.out hb)
      have Bx_32 := am_ (blk_below Bx_30.out hb)
      have By_32 := am_ (blk_below By_30.out hb)
      have Bg_32 := am_ (blk_below Bg_30.out hb)
      have HB_32 := am_ (below_then HB_30.out HB_30.out.size hb)
      clear Rwr_30 Rwl_30 Rgr_30 Rgl_30 Ra_30 Rb_30 Rc_30 Rd_n BL0_30 BL1_30 Bw_30 Bx_30 By_30 Bg_30 HB_30
      have BX_n := am_ hbx
      have GL_n := am_ (show gx < V21n6.heap.size from blk_lt hbx)
      clear hbx hgx
      have VV_v33 := am_ (show V21.heap.size ≤ V21n6.heap.size from Nat.le_trans VV_v31.out hb.size)
      clear hb
      refine hK.out _ _ ⟨(blk_cell BL0_32.out 0).trans rfl, (blk_cell BL1_32.out 0).trans rfl, (blk_cell BL1_32.out 1).trans rfl⟩ (fun hHeld => ?_)
      clear hK K
      refine norm_ (a' := ?_) ?_ ?_
      rotate_left
      ·show Act.put _ (some 18) _ = _
       simp only [Act.put, List.setIfInBounds_toArray, List.set_cons_zero, List.set_cons_succ, i64_w, i32_w]
       rfl
      refine one_ (i := 6) (N := some 120) #[true, true, true, true, true, true, true, false, false, false, true, false, false] rfl rfl (one_of HT_.out (by kernel_rfl)) (by decide) (fun K hK => ?_)
      refine goes_ Try.func61 (by kernel_rfl) rfl #[.agg #[.slice Aa p.length ca], .agg #[.slice Ab sr.length cb, .slice Ac sl.length cc], .slice Ad rw.length cd] (by rfl) rfl rfl (by (try simp only [List.map_toArray, List.map_cons, List.map_nil]); first | done | rfl) ?_
      with_reducible refine (impl_TurnSeen.calls k _ _ p _ _ _ sr _ _ sl _ _ rw wr wl told _ (Kd.S_reads' Ra_32.out).2.2 (Kd.S_reads' Ra_32.out).2.1 (Kd.R_V Rb_32.out) (Kd.R_reads' Rc_32.out).2.2 (Kd.R_reads' Rc_32.out).2.1 (Kd.R_reads' Rd_32.out).2.2 (Kd.R_reads' Rd_32.out).2.1 Gim.out).mono ?_
      rintro e V21n7 ⟨ve, vf, rfl, hS, hT, hb⟩
      refine ⟨_, rfl, ?_⟩
      obtain ⟨Ae, ce, rfl⟩ := Kd.R_slice hS
      obtain ⟨Af, cf, rfl⟩ := Kd.R_slice hT
      have hle : w.heap.size ≤ V21n6.heap.size := HB_32.out.size
      have hvv : V21.heap.size ≤ V21n6.heap.size := VV_v33.out
      have Rwr_34 := am_ (Kd.R_below Rwr_32.out hb)
      have Rwl_34 := am_ (Kd.R_below Rwl_32.out hb)
      have Rgr_34 := am_ (Kd.R_below Rgr_32.out hb)
      have Rgl_34 := am_ (Kd.R_below Rgl_32.out hb)
      have BL0_34 := am_ (blk_below BL0_32.out hb)
      have BL1_34 := am_ (blk_below BL1_32.out hb)
      have Bw_34 := am_ (blk_below Bw_32.out hb)
      have Bx_34 := am_ (blk_below Bx_32.out hb)
      have By_34 := am_ (blk_below By_32.out hb)
      have Bg_34 := am_ (blk_below Bg_32.out hb)
      have BX_34 := am_ (blk_below BX_n.out hb)
      have HB_34 := am_ (below_then HB_32.out HB_32.out.size hb)
      clear Rwr_32 Rwl_32 Rgr_32 Rgl_32 BL0_32 BL1_32 Bw_32 Bx_32 By_32 Bg_32 BX_n HB_32
      have hap := am_ (show ∀ j, some j = (Value.slice Ae wr.length ce).ownBlock → some j ≠ (Value.slice Af wl.length cf).ownBlock from fun j hj => (hS.1 j hj.symm).2)
      have hgl := GL_n.out
      have Re_n := am_ (Kd.R_lower (Kd.R_mono (ok' := fun j => V21.heap.size ≤ j ∧ j < V21n7.heap.size ∧ j ≠ gx ∧ some j = (Value.slice Ae wr.length ce).ownBlock) (Kd.R_bound (Kd.R_tight rfl hS)) (fun j hj => ⟨Nat.le_trans hvv hj.2.1, hj.2.2.1, by have := hj.2.1; omega, hj.1⟩)) hle)
      have Rf_n := am_ (Kd.R_lower (Kd.R_mono (ok' := fun j => V21.heap.size ≤ j ∧ j < V21n7.heap.size ∧ j ≠ gx ∧ some j = (Value.slice Af wl.length cf).ownBlock) (Kd.R_bound (Kd.R_tight rfl hT)) (fun j hj => ⟨Nat.le_trans hvv hj.2.1, hj.2.2.1, by have := hj.2.1; omega, hj.1⟩)) hle)
      clear hS hT hle hvv hgl
      have VV_v35 := am_ (show V21.heap.size ≤ V21n7.heap.size from Nat.le_trans VV_v33.out hb.size)
      have GL_v35 := am_ (show gx < V21n7.heap.size from blk_lt BX_34.out)
      clear hb
      refine hK.out _ _ ⟨(blk_cell BL0_34.out 0).trans rfl, (blk_cell BL1_34.out 0).trans rfl, (blk_cell BL1_34.out 1).trans rfl⟩ (fun hHeld => ?_)
      clear hK K
      refine norm_ (a' := ?_) ?_ ?_
      rotate_left
      ·show Act.put _ (some 120) _ = _
       simp only [Act.put, List.setIfInBounds_toArray, List.set_cons_zero, List.set_cons_succ, i64_w, i32_w]
       rfl
      refine pure_ (i := 7) (N := some 113) (v := ?_) (a' := ?_) #[true, true, true, true, true, true, true, true, false, false, true, false, false] rfl rfl (any_of HT_.out (by kernel_rfl)) (fun _ _ _ h => h) (Or.inl ⟨by rfl, ?_⟩) ?_ ?_
      rotate_left
      ·intro w'
       go_simp
       with_reducible rfl
      rotate_left
      ·simp only [Act.put, List.setIfInBounds_toArray, List.set_cons_zero, List.set_cons_succ, i64_w, i32_w]
       rfl
      refine pure_ (i := 8) (N := some 121) (v := ?_) (a' := ?_) #[true, true, true, true, true, true, true, true, true, false, true, false, false] rfl rfl (any_of HT_.out (by kernel_rfl)) (fun _ _ _ h => h) (Or.inl ⟨by rfl, ?_⟩) ?_ ?_
      rotate_left
      ·intro w'
       go_simp
       with_reducible rfl
      rotate_left
      ·simp only [Act.put, List.setIfInBounds_toArray, List.set_cons_zero, List.set_cons_succ, i64_w, i32_w]
       rfl
      refine pure_ (i := 9) (N := some 122) (v := ?_) (a' := ?_) #[true, true, true, true, true, true, true, true, true, true, true, false, false] rfl rfl (any_of HT_.out (by kernel_rfl)) (fun _ _ _ h => h) (Or.inl ⟨by rfl, ?_⟩) ?_ ?_
      rotate_left
      ·intro w'
       go_simp
       with_reducible rfl
      rotate_left
      ·simp only [Act.put, List.setIfInBounds_toArray, List.set_cons_zero, List.set_cons_succ, i64_w, i32_w]
       rfl
      have zz := hCont (.slice Aa p.length ca, .slice Ab sr.length cb, .slice Ac sl.length cc, .slice Ad rw.length cd, .slice Ae wr.length ce, .slice Af wl.length cf, gx) _ ⟨⟨(blk_cell BL0_34.out 0).trans rfl, (blk_cell BL1_34.out 0).trans rfl, (blk_cell BL1_34.out 1).trans rfl⟩, BL0_34.out, BL1_34.out, Bw_34.out, Bx_34.out, By_34.out, Bg_34.out, Rwr_34.out, Rwl_34.out, Rgr_34.out, Rgl_34.out, BX_34.out, Re_n.out, Rf_n.out, hap.out, HB_34.out, GX.out, GL_v35.out⟩
      simp only [putAll, Act.put, List.setIfInBounds_toArray, List.set_cons_zero, List.set_cons_succ] at zz
      exact zz
    ·refine box_step (by rfl) (N := 18) rfl (cs := #[Value.slice none 0 0, Value.slice none 0 0]) (t := 24) ?hr ?_
     case hr => first | (go_simp; done) | (go_simp; rfl)
     intro gx hgx V21n8 hbx hb
     have GX := am_ (show V21.heap.size ≤ gx from by rw [hgx]; exact VV_v29.out)
     have Rwr_30 := am_ (Kd.R_below Rwr_28.out hb)
     have Rwl_30 := am_ (Kd.R_below Rwl_28.out hb)
     have Rgr_30 := am_ (Kd.R_below Rgr_28.out hb)
     have Rgl_30 := am_ (Kd.R_below Rgl_28.out hb)
     have Ra_30 := am_ (Kd.S_below Ra_28.out hb)
     have Rb_30 := am_ (Kd.R_below Rb_n.out hb)
     have Rc_30 := am_ (Kd.R_below Rc_n.out hb)
     have BL0_30 := am_ (blk_below BL0_28.out hb)
     have BL1_30 := am_ (blk_below BL1_28.out hb)
     have Bw_30 := am_ (blk_below Bw_28.out hb)
     have Bx_30 := am_ (blk_below Bx_28.out hb)
     have By_30 := am_ (blk_below By_28.out hb)
     have Bg_30 := am_ (blk_below Bg_28.out hb)
     have HB_30 := am_ (below_then HB_28.out HB_28.out.size hb)
     clear Rwr_28 Rwl_28 Rgr_28 Rgl_28 Ra_28 Rb_n Rc_n BL0_28 BL1_28 Bw_28 Bx_28 By_28 Bg_28 HB_28
     have BX_n := am_ hbx
     have GL_n := am_ (show gx < V21n8.heap.size from blk_lt hbx)
     clear hbx hgx
     have VV_v31 := am_ (show V21.heap.size ≤ V21n8.heap.size from Nat.le_trans VV_v29.out hb.size)
     clear hb
     refine hK.out _ _ ⟨(blk_cell BL0_30.out 0).trans rfl, (blk_cell BL1_30.out 0).trans rfl, (blk_cell BL1_30.out 1).trans rfl⟩ (fun hHeld => ?_)
     clear hK K
     refine norm_ (a' := ?_) ?_ ?_
     rotate_left
     ·show Act.put _ (some 18) _ = _
      simp only [Act.put, List.setIfInBounds_toArray, List.set_cons_zero, List.set_cons_succ, i64_w, i32_w]
      rfl
     refine one_ (i := 5) (N := some 119) #[true, true, true, true, true, true, false, false, false, false, true, false, false] rfl rfl (one_of HT_.out (by kernel_rfl)) (by decide) (fun K hK => ?_)
     refine goes_ Try.func54 (by kernel_rfl) rfl #[.slice A3 rw.length c3] (by rfl) rfl rfl (by (try simp only [List.map_toArray, List.map_cons, List.map_nil]); first | done | rfl) ?_
     with_reducible refine (laws_toIntS.calls k _ _ rw rw _ (Kd.C_below CR.out HB_30.out) LR.out Gtoi.out).mono ?_
     rintro e V21n9 ⟨vd, rfl, hS, hb⟩
     refine ⟨_, rfl, ?_⟩
     obtain ⟨Ad, cd, rfl⟩ := Kd.R_slice hS
     have Rwr_32 := am_ (Kd.R_below Rwr_30.out hb)
     have Rwl_32 := am_ (Kd.R_below Rwl_30.out hb)
     have Rgr_32 := am_ (Kd.R_below Rgr_30.out hb)
     have Rgl_32 := am_ (Kd.R_below Rgl_30.out hb)
     have Ra_32 := am_ (Kd.S_below Ra_30.out hb)
     have Rb_32 := am_ (Kd.R_below Rb_30.out hb)
     have Rc_32 := am_ (Kd.R_below Rc_30.out hb)
     have BL0_32 := am_ (blk_below BL0_30.out hb)
     have BL1_32 := am_ (blk_below BL1_30.out hb)
     have Bw_32 := am_ (blk_below Bw_30.out hb)
     have Bx_32 := am_ (blk_below Bx_30.out hb)
     have By_32 := am_ (blk_below By_30.out hb)
     have Bg_32 := am_ (blk_below Bg_30.out hb)
     have BX_32 := am_ (blk_below BX_n.out hb)
     have HB_32 := am_ (below_then HB_30.out HB_30.out.size hb)
     clear Rwr_30 Rwl_30 Rgr_30 Rgl_30 Ra_30 Rb_30 Rc_30 BL0_30 BL1_30 Bw_30 Bx_30 By_30 Bg_30 BX_n HB_30
     have Rd_n := am_ hS
     clear hS
     have VV_v33 := am_ (show V21.heap.size ≤ V21n9.heap.size from Nat.le_trans VV_v31.out hb.size)
     have GL_v33 := am_ (show gx < V21n9.heap.size from blk_lt BX_32.out)
     clear hb
     refine hK.out _ _ ⟨(blk_cell BL0_32.out 0).trans rfl, (blk_cell BL1_32.out 0).trans rfl, (blk_cell BL1_32.out 1).trans rfl⟩ (fun hHeld => ?_)
     clear hK K
     refine norm_ (a' := ?_) ?_ ?_
     rotate_left
     ·show Act.put _ (some 119) _ = _
      simp only [Act.put, List.setIfInBounds_toArray, List.set_cons_zero, List.set_cons_succ, i64_w, i32_w]
      rfl
     refine one_ (i := 6) (N := some 120) #[true, true, true, true, true, true, true, false, false, false, true, false, false] rfl rfl (one_of HT_.out (by kernel_rfl)) (by decide) (fun K hK => ?_)
     refine goes_ Try.func61 (by kernel_rfl) rfl #[.agg #[.slice Aa p.length ca], .agg #[.slice Ab sr.length cb, .slice Ac sl.length cc], .slice Ad rw.length cd] (by rfl) rfl rfl (by (try simp only [List.map_toArray, List.map_cons, List.map_nil]); first | done | rfl) ?_
     with_reducible refine (impl_TurnSeen.calls k _ _ p _ _ _ sr _ _ sl _ _ rw wr wl told _ (Kd.S_reads' Ra_32.out).2.2 (Kd.S_reads' Ra_32.out).2.1 (Kd.R_V Rb_32.out) (Kd.R_reads' Rc_32.out).2.2 (Kd.R_reads' Rc_32.out).2.1 (Kd.R_reads' Rd_n.out).2.2 (Kd.R_reads' Rd_n.out).2.1 Gim.out).mono ?_
     rintro e V21n10 ⟨ve, vf, rfl, hS, hT, hb⟩
     refine ⟨_, rfl, ?_⟩
     obtain ⟨Ae, ce, rfl⟩ := Kd.R_slice hS
     obtain ⟨Af, cf, rfl⟩ := Kd.R_slice hT
     have hle : w.heap.size ≤ V21n9.heap.size := HB_32.out.size
     have hvv : V21.heap.size ≤ V21n9.heap.size := VV_v33.out
     have Rwr_34 := am_ (Kd.R_below Rwr_32.out hb)
     have Rwl_34 := am_ (Kd.R_below Rwl_32.out hb)
     have Rgr_34 := am_ (Kd.R_below Rgr_32.out hb)
     have Rgl_34 := am_ (Kd.R_below Rgl_32.out hb)
     have BL0_34 := am_ (blk_below BL0_32.out hb)
     have BL1_34 := am_ (blk_below BL1_32.out hb)
     have Bw_34 := am_ (blk_below Bw_32.out hb)
     have Bx_34 := am_ (blk_below Bx_32.out hb)
     have By_34 := am_ (blk_below By_32.out hb)
     have Bg_34 := am_ (blk_below Bg_32.out hb)
     have BX_34 := am_ (blk_below BX_32.out hb)
     have HB_34 := am_ (below_then HB_32.out HB_32.out.size hb)
     clear Rwr_32 Rwl_32 Rgr_32 Rgl_32 BL0_32 BL1_32 Bw_32 Bx_32 By_32 Bg_32 BX_32 HB_32
     have hap := am_ (show ∀ j, some j = (Value.slice Ae wr.length ce).ownBlock → some j ≠ (Value.slice Af wl.length cf).ownBlock from fun j hj => (hS.1 j hj.symm).2)
     have hgl := GL_v33.out
     have Re_n := am_ (Kd.R_lower (Kd.R_mono (ok' := fun j => V21.heap.size ≤ j ∧ j < V21n10.heap.size ∧ j ≠ gx ∧ some j = (Value.slice Ae wr.length ce).ownBlock) (Kd.R_bound (Kd.R_tight rfl hS)) (fun j hj => ⟨Nat.le_trans hvv hj.2.1, hj.2.2.1, by have := hj.2.1; omega, hj.1⟩)) hle)
     have Rf_n := am_ (Kd.R_lower (Kd.R_mono (ok' := fun j => V21.heap.size ≤ j ∧ j < V21n10.heap.size ∧ j ≠ gx ∧ some j = (Value.slice Af wl.length cf).ownBlock) (Kd.R_bound (Kd.R_tight rfl hT)) (fun j hj => ⟨Nat.le_trans hvv hj.2.1, hj.2.2.1, by have := hj.2.1; omega, hj.1⟩)) hle)
     clear hS hT hle hvv hgl
     have VV_v35 := am_ (show V21.heap.size ≤ V21n10.heap.size from Nat.le_trans VV_v33.out hb.size)
     have GL_v35 := am_ (show gx < V21n10.heap.size from blk_lt BX_34.out)
     clear hb
     refine hK.out _ _ ⟨(blk_cell BL0_34.out 0).trans rfl, (blk_cell BL1_34.out 0).trans rfl, (blk_cell BL1_34.out 1).trans rfl⟩ (fun hHeld => ?_)
     clear hK K
     refine norm_ (a' := ?_) ?_ ?_
     rotate_left
     ·show Act.put _ (some 120) _ = _
      simp only [Act.put, List.setIfInBounds_toArray, List.set_cons_zero, List.set_cons_succ, i64_w, i32_w]
      rfl
     refine pure_ (i := 7) (N := some 113) (v := ?_) (a' := ?_) #[true, true, true, true, true, true, true, true, false, false, true, false, false] rfl rfl (any_of HT_.out (by kernel_rfl)) (fun _ _ _ h => h) (Or.inl ⟨by rfl, ?_⟩) ?_ ?_
     rotate_left
     ·intro w'
      go_simp
      with_reducible rfl
     rotate_left
     ·simp only [Act.put, List.setIfInBounds_toArray, List.set_cons_zero, List.set_cons_succ, i64_w, i32_w]
      rfl
     refine pure_ (i := 8) (N := some 121) (v := ?_) (a' := ?_) #[true, true, true, true, true, true, true, true, true, false, true, false, false] rfl rfl (any_of HT_.out (by kernel_rfl)) (fun _ _ _ h => h) (Or.inl ⟨by rfl, ?_⟩) ?_ ?_
     rotate_left
     ·intro w'
      go_simp
      with_reducible rfl
     rotate_left
     ·simp only [Act.put, List.setIfInBounds_toArray, List.set_cons_zero, List.set_cons_succ, i64_w, i32_w]
      rfl
     refine pure_ (i := 9) (N := some 122) (v := ?_) (a' := ?_) #[true, true, true, true, true, true, true, true, true, true, true, false, false] rfl rfl (any_of HT_.out (by kernel_rfl)) (fun _ _ _ h => h) (Or.inl ⟨by rfl, ?_⟩) ?_ ?_
     rotate_left
     ·intro w'
      go_simp
      with_reducible rfl
     rotate_left
     ·simp only [Act.put, List.setIfInBounds_toArray, List.set_cons_zero, List.set_cons_succ, i64_w, i32_w]
      rfl
     have zz := hCont (.slice Aa p.length ca, .slice Ab sr.length cb, .slice Ac sl.length cc, .slice Ad rw.length cd, .slice Ae wr.length ce, .slice Af wl.length cf, gx) _ ⟨⟨(blk_cell BL0_34.out 0).trans rfl, (blk_cell BL1_34.out 0).trans rfl, (blk_cell BL1_34.out 1).trans rfl⟩, BL0_34.out, BL1_34.out, Bw_34.out, Bx_34.out, By_34.out, Bg_34.out, Rwr_34.out, Rwl_34.out, Rgr_34.out, Rgl_34.out, BX_34.out, Re_n.out, Rf_n.out, hap.out, HB_34.out, GX.out, GL_v35.out⟩
     simp only [putAll, Act.put, List.setIfInBounds_toArray, List.set_cons_zero, List.set_cons_succ] at zz
     exact zz
   ·refine box_step (by rfl) (N := 18) rfl (cs := #[Value.slice none 0 0, Value.slice none 0 0]) (t := 24) ?hr ?_
    case hr => first | (go_simp; done) | (go_simp; rfl)
    intro gx hgx V21n11 hbx hb
    have GX := am_ (show V21.heap.size ≤ gx from by rw [hgx]; exact VV_v27.out)
    have Rwr_28 := am_ (Kd.R_below Rwr_26.out hb)
    have Rwl_28 := am_ (Kd.R_below Rwl_26.out hb)
    have Rgr_28 := am_ (Kd.R_below Rgr_26.out hb)
    have Rgl_28 := am_ (Kd.R_below Rgl_26.out hb)
    have Ra_28 := am_ (Kd.S_below Ra_n.out hb)
    have BL0_28 := am_ (blk_below BL0_26.out hb)
    have BL1_28 := am_ (blk_below BL1_26.out hb)
    have Bw_28 := am_ (blk_below Bw_26.out hb)
    have Bx_28 := am_ (blk_below Bx_26.out hb)
    have By_28 := am_ (blk_below By_26.out hb)
    have Bg_28 := am_ (blk_below Bg_26.out hb)
    have HB_28 := am_ (below_then HB_26.out HB_26.out.size hb)
    clear Rwr_26 Rwl_26 Rgr_26 Rgl_26 Ra_n BL0_26 BL1_26 Bw_26 Bx_26 By_26 Bg_26 HB_26
    have BX_n := am_ hbx
    have GL_n := am_ (show gx < V21n11.heap.size from blk_lt hbx)
    clear hbx hgx
    have VV_v29 := am_ (show V21.heap.size ≤ V21n11.heap.size from Nat.le_trans VV_v27.out hb.size)
    clear hb
    refine hK.out _ _ ⟨(blk_cell BL0_28.out 0).trans rfl, (blk_cell BL1_28.out 0).trans rfl, (blk_cell BL1_28.out 1).trans rfl⟩ (fun hHeld => ?_)
    clear hK K
    refine norm_ (a' := ?_) ?_ ?_
    rotate_left
    ·show Act.put _ (some 18) _ = _
     simp only [Act.put, List.setIfInBounds_toArray, List.set_cons_zero, List.set_cons_succ, i64_w, i32_w]
     rfl
    refine one_ (i := 3) (N := some 117) #[true, true, true, true, true, false, false, false, false, false, true, false, false] rfl rfl (one_of HT_.out (by kernel_rfl)) (by decide) (fun K hK => ?_)
    refine goes_ Try.func65 (by kernel_rfl) rfl #[.agg #[.slice A1 sr.length c1, .slice A2 sl.length c2]] (by rfl) rfl rfl (by (try simp only [List.map_toArray, List.map_cons, List.map_nil]); first | done | rfl) ?_
    with_reducible refine (laws_toSeen.calls k _ _ sr _ _ sl sr sl _ (Kd.C_below CM.out HB_28.out) LM.out (Kd.C_below CN.out HB_28.out) LN.out Gtos.out).mono ?_
    rintro e V21n12 ⟨vb, vc, rfl, hS, hT, hb⟩
    refine ⟨_, rfl, ?_⟩
    obtain ⟨Ab, cb, rfl⟩ := Kd.R_slice hS
    obtain ⟨Ac, cc, rfl⟩ := Kd.R_slice hT
    have Rwr_30 := am_ (Kd.R_below Rwr_28.out hb)
    have Rwl_30 := am_ (Kd.R_below Rwl_28.out hb)
    have Rgr_30 := am_ (Kd.R_below Rgr_28.out hb)
    have Rgl_30 := am_ (Kd.R_below Rgl_28.out hb)
    have Ra_30 := am_ (Kd.S_below Ra_28.out hb)
    have BL0_30 := am_ (blk_below BL0_28.out hb)
    have BL1_30 := am_ (blk_below BL1_28.out hb)
    have Bw_30 := am_ (blk_below Bw_28.out hb)
    have Bx_30 := am_ (blk_below Bx_28.out hb)
    have By_30 := am_ (blk_below By_28.out hb)
    have Bg_30 := am_ (blk_below Bg_28.out hb)
    have BX_30 := am_ (blk_below BX_n.out hb)
    have HB_30 := am_ (below_then HB_28.out HB_28.out.size hb)
    clear Rwr_28 Rwl_28 Rgr_28 Rgl_28 Ra_28 BL0_28 BL1_28 Bw_28 Bx_28 By_28 Bg_28 BX_n HB_28
    have Rb_n := am_ hS
    have Rc_n := am_ hT
    clear hS hT
    have VV_v31 := am_ (show V21.heap.size ≤ V21n12.heap.size from Nat.le_trans VV_v29.out hb.size)
    have GL_v31 := am_ (show gx < V21n12.heap.size from blk_lt BX_30.out)
    clear hb
    refine hK.out _ _ ⟨(blk_cell BL0_30.out 0).trans rfl, (blk_cell BL1_30.out 0).trans rfl, (blk_cell BL1_30.out 1).trans rfl⟩ (fun hHeld => ?_)
    clear hK K
    refine norm_ (a' := ?_) ?_ ?_
    rotate_left
    ·show Act.put _ (some 117) _ = _
     simp only [Act.put, List.setIfInBounds_toArray, List.set_cons_zero, List.set_cons_succ, i64_w, i32_w]
     rfl
    refine one_ (i := 5) (N := some 119) #[true, true, true, true, true, true, false, false, false, false, true, false, false] rfl rfl (one_of HT_.out (by kernel_rfl)) (by decide) (fun K hK => ?_)
    refine goes_ Try.func54 (by kernel_rfl) rfl #[.slice A3 rw.length c3] (by rfl) rfl rfl (by (try simp only [List.map_toArray, List.map_cons, List.map_nil]); first | done | rfl) ?_
    with_reducible refine (laws_toIntS.calls k _ _ rw rw _ (Kd.C_below CR.out HB_30.out) LR.out Gtoi.out).mono ?_
    rintro e V21n13 ⟨vd, rfl, hS, hb⟩
    refine ⟨_, rfl, ?_⟩
    obtain ⟨Ad, cd, rfl⟩ := Kd.R_slice hS
    have Rwr_32 := am_ (Kd.R_below Rwr_30.out hb)
    have Rwl_32 := am_ (Kd.R_below Rwl_30.out hb)
    have Rgr_32 := am_ (Kd.R_below Rgr_30.out hb)
    have Rgl_32 := am_ (Kd.R_below Rgl_30.out hb)
    have Ra_32 := am_ (Kd.S_below Ra_30.out hb)
    have Rb_32 := am_ (Kd.R_below Rb_n.out hb)
    have Rc_32 := am_ (Kd.R_below Rc_n.out hb)
    have BL0_32 := am_ (blk_below BL0_30.out hb)
    have BL1_32 := am_ (blk_below BL1_30.out hb)
    have Bw_32 := am_ (blk_below Bw_30.out hb)
    have Bx_32 := am_ (blk_below Bx_30.out hb)
    have By_32 := am_ (blk_below By_30.out hb)
    have Bg_32 := am_ (blk_below Bg_30.out hb)
    have BX_32 := am_ (blk_below BX_30.out hb)
    have HB_32 := am_ (below_then HB_30.out HB_30.out.size hb)
    clear Rwr_30 Rwl_30 Rgr_30 Rgl_30 Ra_30 Rb_n Rc_n BL0_30 BL1_30 Bw_30 Bx_30 By_30 Bg_30 BX_30 HB_30
    have Rd_n := am_ hS
    clear hS
    have VV_v33 := am_ (show V21.heap.size ≤ V21n13.heap.size from Nat.le_trans VV_v31.out hb.size)
    have GL_v33 := am_ (show gx < V21n13.heap.size from blk_lt BX_32.out)
    clear hb
    refine hK.out _ _ ⟨(blk_cell BL0_32.out 0).trans rfl, (blk_cell BL1_32.out 0).trans rfl, (blk_cell BL1_32.out 1).trans rfl⟩ (fun hHeld => ?_)
    clear hK K
    refine norm_ (a' := ?_) ?_ ?_
    rotate_left
    ·show Act.put _ (some 119) _ = _
     simp only [Act.put, List.setIfInBounds_toArray, List.set_cons_zero, List.set_cons_succ, i64_w, i32_w]
     rfl
    refine one_ (i := 6) (N := some 120) #[true, true, true, true, true, true, true, false, false, false, true, false, false] rfl rfl (one_of HT_.out (by kernel_rfl)) (by decide) (fun K hK => ?_)
    refine goes_ Try.func61 (by kernel_rfl) rfl #[.agg #[.slice Aa p.length ca], .agg #[.slice Ab sr.length cb, .slice Ac sl.length cc], .slice Ad rw.length cd] (by rfl) rfl rfl (by (try simp only [List.map_toArray, List.map_cons, List.map_nil]); first | done | rfl) ?_
    with_reducible refine (impl_TurnSeen.calls k _ _ p _ _ _ sr _ _ sl _ _ rw wr wl told _ (Kd.S_reads' Ra_32.out).2.2 (Kd.S_reads' Ra_32.out).2.1 (Kd.R_V Rb_32.out) (Kd.R_reads' Rc_32.out).2.2 (Kd.R_reads' Rc_32.out).2.1 (Kd.R_reads' Rd_n.out).2.2 (Kd.R_reads' Rd_n.out).2.1 Gim.out).mono ?_
    rintro e V21n14 ⟨ve, vf, rfl, hS, hT, hb⟩
    refine ⟨_, rfl, ?_⟩
    obtain ⟨Ae, ce, rfl⟩ := Kd.R_slice hS
    obtain ⟨Af, cf, rfl⟩ := Kd.R_slice hT
    have hle : w.heap.size ≤ V21n13.heap.size := HB_32.out.size
    have hvv : V21.heap.size ≤ V21n13.heap.size := VV_v33.out
    have Rwr_34 := am_ (Kd.R_below Rwr_32.out hb)
    have Rwl_34 := am_ (Kd.R_below Rwl_32.out hb)
    have Rgr_34 := am_ (Kd.R_below Rgr_32.out hb)
    have Rgl_34 := am_ (Kd.R_below Rgl_32.out hb)
    have BL0_34 := am_ (blk_below BL0_32.out hb)
    have BL1_34 := am_ (blk_below BL1_32.out hb)
    have Bw_34 := am_ (blk_below Bw_32.out hb)
    have Bx_34 := am_ (blk_below Bx_32.out hb)
    have By_34 := am_ (blk_below By_32.out hb)
    have Bg_34 := am_ (blk_below Bg_32.out hb)
    have BX_34 := am_ (blk_below BX_32.out hb)
    have HB_34 := am_ (below_then HB_32.out HB_32.out.size hb)
    clear Rwr_32 Rwl_32 Rgr_32 Rgl_32 BL0_32 BL1_32 Bw_32 Bx_32 By_32 Bg_32 BX_32 HB_32
    have hap := am_ (show ∀ j, some j = (Value.slice Ae wr.length ce).ownBlock → some j ≠ (Value.slice Af wl.length cf).ownBlock from fun j hj => (hS.1 j hj.symm).2)
    have hgl := GL_v33.out
    have Re_n := am_ (Kd.R_lower (Kd.R_mono (ok' := fun j => V21.heap.size ≤ j ∧ j < V21n14.heap.size ∧ j ≠ gx ∧ some j = (Value.slice Ae wr.length ce).ownBlock) (Kd.R_bound (Kd.R_tight rfl hS)) (fun j hj => ⟨Nat.le_trans hvv hj.2.1, hj.2.2.1, by have := hj.2.1; omega, hj.1⟩)) hle)
    have Rf_n := am_ (Kd.R_lower (Kd.R_mono (ok' := fun j => V21.heap.size ≤ j ∧ j < V21n14.heap.size ∧ j ≠ gx ∧ some j = (Value.slice Af wl.length cf).ownBlock) (Kd.R_bound (Kd.R_tight rfl hT)) (fun j hj => ⟨Nat.le_trans hvv hj.2.1, hj.2.2.1, by have := hj.2.1; omega, hj.1⟩)) hle)
    clear hS hT hle hvv hgl
    have VV_v35 := am_ (show V21.heap.size ≤ V21n14.heap.size from Nat.le_trans VV_v33.out hb.size)
    have GL_v35 := am_ (show gx < V21n14.heap.size from blk_lt BX_34.out)
    clear hb
    refine hK.out _ _ ⟨(blk_cell BL0_34.out 0).trans rfl, (blk_cell BL1_34.out 0).trans rfl, (blk_cell BL1_34.out 1).trans rfl⟩ (fun hHeld => ?_)
    clear hK K
    refine norm_ (a' := ?_) ?_ ?_
    rotate_left
    ·show Act.put _ (some 120) _ = _
     simp only [Act.put, List.setIfInBounds_toArray, List.set_cons_zero, List.set_cons_succ, i64_w, i32_w]
     rfl
    refine pure_ (i := 7) (N := some 113) (v := ?_) (a' := ?_) #[true, true, true, true, true, true, true, true, false, false, true, false, false] rfl rfl (any_of HT_.out (by kernel_rfl)) (fun _ _ _ h => h) (Or.inl ⟨by rfl, ?_⟩) ?_ ?_
    rotate_left
    ·intro w'
     go_simp
     with_reducible rfl
    rotate_left
    ·simp only [Act.put, List.setIfInBounds_toArray, List.set_cons_zero, List.set_cons_succ, i64_w, i32_w]
     rfl
    refine pure_ (i := 8) (N := some 121) (v := ?_) (a' := ?_) #[true, true, true, true, true, true, true, true, true, false, true, false, false] rfl rfl (any_of HT_.out (by kernel_rfl)) (fun _ _ _ h => h) (Or.inl ⟨by rfl, ?_⟩) ?_ ?_
    rotate_left
    ·intro w'
     go_simp
     with_reducible rfl
    rotate_left
    ·simp only [Act.put, List.setIfInBounds_toArray, List.set_cons_zero, List.set_cons_succ, i64_w, i32_w]
     rfl
    refine pure_ (i := 9) (N := some 122) (v := ?_) (a' := ?_) #[true, true, true, true, true, true, true, true, true, true, true, false, false] rfl rfl (any_of HT_.out (by kernel_rfl)) (fun _ _ _ h => h) (Or.inl ⟨by rfl, ?_⟩) ?_ ?_
    rotate_left
    ·intro w'
     go_simp
     with_reducible rfl
    rotate_left
    ·simp only [Act.put, List.setIfInBounds_toArray, List.set_cons_zero, List.set_cons_succ, i64_w, i32_w]
     rfl
    have zz := hCont (.slice Aa p.length ca, .slice Ab sr.length cb, .slice Ac sl.length cc, .slice Ad rw.length cd, .slice Ae wr.length ce, .slice Af wl.length cf, gx) _ ⟨⟨(blk_cell BL0_34.out 0).trans rfl, (blk_cell BL1_34.out 0).trans rfl, (blk_cell BL1_34.out 1).trans rfl⟩, BL0_34.out, BL1_34.out, Bw_34.out, Bx_34.out, By_34.out, Bg_34.out, Rwr_34.out, Rwl_34.out, Rgr_34.out, Rgl_34.out, BX_34.out, Re_n.out, Rf_n.out, hap.out, HB_34.out, GX.out, GL_v35.out⟩
    simp only [putAll, Act.put, List.setIfInBounds_toArray, List.set_cons_zero, List.set_cons_succ] at zz
    exact zz
  ·refine box_step (by rfl) (N := 18) rfl (cs := #[Value.slice none 0 0, Value.slice none 0 0]) (t := 24) ?hr ?_
   case hr => first | (go_simp; done) | (go_simp; rfl)
   intro gx hgx V21n15 hbx hb
   have GX := am_ (show V21.heap.size ≤ gx from by rw [hgx]; exact Nat.le_refl _)
   have Rwr_26 := am_ (Kd.R_below Rwr_25.out hb)
   have Rwl_26 := am_ (Kd.R_below Rwl_25.out hb)
   have Rgr_26 := am_ (Kd.R_below Rgr_25.out hb)
   have Rgl_26 := am_ (Kd.R_below Rgl_25.out hb)
   have BL0_26 := am_ (blk_below BL0_25.out hb)
   have BL1_26 := am_ (blk_below BL1_25.out hb)
   have Bw_26 := am_ (blk_below Bw_25.out hb)
   have Bx_26 := am_ (blk_below Bx_25.out hb)
   have By_26 := am_ (blk_below By_25.out hb)
   have Bg_26 := am_ (blk_below Bg_25.out hb)
   have HB_26 := am_ (below_then HB_25.out HB_25.out.size hb)
   clear Rwr_25 Rwl_25 Rgr_25 Rgl_25 BL0_25 BL1_25 Bw_25 Bx_25 By_25 Bg_25 HB_25
   have BX_n := am_ hbx
   have GL_n := am_ (show gx < V21n15.heap.size from blk_lt hbx)
   clear hbx hgx
   have VV_v27 := am_ (show V21.heap.size ≤ V21n15.heap.size from hb.size)
   clear hb
   refine hK.out _ _ ⟨(blk_cell BL0_26.out 0).trans rfl, (blk_cell BL1_26.out 0).trans rfl, (blk_cell BL1_26.out 1).trans rfl⟩ (fun hHeld => ?_)
   clear hK K
   refine norm_ (a' := ?_) ?_ ?_
   rotate_left
   ·show Act.put _ (some 18) _ = _
    simp only [Act.put, List.setIfInBounds_toArray, List.set_cons_zero, List.set_cons_succ, i64_w, i32_w]
    rfl
   refine one_ (i := 1) (N := some 115) #[true, true, true, false, true, false, false, false, false, false, true, false, false] rfl rfl (one_of HT_.out (by kernel_rfl)) (by decide) (fun K hK => ?_)
   refine goes_ Try.func45 (by kernel_rfl) rfl #[.agg #[.slice A0 l.length c0]] (by rfl) rfl rfl (by (try simp only [List.map_toArray, List.map_cons, List.map_nil]); first | done | rfl) ?_
   with_reducible refine (laws_toProg.calls k _ _ l p _ (Kd.C_below CL.out HB_26.out) LL.out Gto.out).mono ?_
   rintro e V21n16 ⟨va, rfl, hS, hb⟩
   refine ⟨_, rfl, ?_⟩
   obtain ⟨Aa, ca, rfl⟩ := Kd.S_slice hS
   have Rwr_28 := am_ (Kd.R_below Rwr_26.out hb)
   have Rwl_28 := am_ (Kd.R_below Rwl_26.out hb)
   have Rgr_28 := am_ (Kd.R_below Rgr_26.out hb)
   have Rgl_28 := am_ (Kd.R_below Rgl_26.out hb)
   have BL0_28 := am_ (blk_below BL0_26.out hb)
   have BL1_28 := am_ (blk_below BL1_26.out hb)
   have Bw_28 := am_ (blk_below Bw_26.out hb)
   have Bx_28 := am_ (blk_below Bx_26.out hb)
   have By_28 := am_ (blk_below By_26.out hb)
   have Bg_28 := am_ (blk_below Bg_26.out hb)
   have BX_28 := am_ (blk_below BX_n.out hb)
   have HB_28 := am_ (below_then HB_26.out HB_26.out.size hb)
   clear Rwr_26 Rwl_26 Rgr_26 Rgl_26 BL0_26 BL1_26 Bw_26 Bx_26 By_26 Bg_26 BX_n HB_26
   have Ra_n := am_ hS
   clear hS
   have VV_v29 := am_ (show V21.heap.size ≤ V21n16.heap.size from Nat.le_trans VV_v27.out hb.size)
   have GL_v29 := am_ (show gx < V21n16.heap.size from blk_lt BX_28.out)
   clear hb
   refine hK.out _ _ ⟨(blk_cell BL0_28.out 0).trans rfl, (blk_cell BL1_28.out 0).trans rfl, (blk_cell BL1_28.out 1).trans rfl⟩ (fun hHeld => ?_)
   clear hK K
   refine norm_ (a' := ?_) ?_ ?_
   rotate_left
   ·show Act.put _ (some 115) _ = _
    simp only [Act.put, List.setIfInBounds_toArray, List.set_cons_zero, List.set_cons_succ, i64_w, i32_w]
    rfl
   refine one_ (i := 3) (N := some 117) #[true, true, true, true, true, false, false, false, false, false, true, false, false] rfl rfl (one_of HT_.out (by kernel_rfl)) (by decide) (fun K hK => ?_)
   refine goes_ Try.func65 (by kernel_rfl) rfl #[.agg #[.slice A1 sr.length c1, .slice A2 sl.length c2]] (by rfl) rfl rfl (by (try simp only [List.map_toArray, List.map_cons, List.map_nil]); first | done | rfl) ?_
   with_reducible refine (laws_toSeen.calls k _ _ sr _ _ sl sr sl _ (Kd.C_below CM.out HB_28.out) LM.out (Kd.C_below CN.out HB_28.out) LN.out Gtos.out).mono ?_
   rintro e V21n17 ⟨vb, vc, rfl, hS, hT, hb⟩
   refine ⟨_, rfl, ?_⟩
   obtain ⟨Ab, cb, rfl⟩ := Kd.R_slice hS
   obtain ⟨Ac, cc, rfl⟩ := Kd.R_slice hT
   have Rwr_30 := am_ (Kd.R_below Rwr_28.out hb)
   have Rwl_30 := am_ (Kd.R_below Rwl_28.out hb)
   have Rgr_30 := am_ (Kd.R_below Rgr_28.out hb)
   have Rgl_30 := am_ (Kd.R_below Rgl_28.out hb)
   have Ra_30 := am_ (Kd.S_below Ra_n.out hb)
   have BL0_30 := am_ (blk_below BL0_28.out hb)
   have BL1_30 := am_ (blk_below BL1_28.out hb)
   have Bw_30 := am_ (blk_below Bw_28.out hb)
   have Bx_30 := am_ (blk_below Bx_28.out hb)
   have By_30 := am_ (blk_below By_28.out hb)
   have Bg_30 := am_ (blk_below Bg_28.out hb)
   have BX_30 := am_ (blk_below BX_28.out hb)
   have HB_30 := am_ (below_then HB_28.out HB_28.out.size hb)
   clear Rwr_28 Rwl_28 Rgr_28 Rgl_28 Ra_n BL0_28 BL1_28 Bw_28 Bx_28 By_28 Bg_28 BX_28 HB_28
   have Rb_n := am_ hS
   have Rc_n := am_ hT
   clear hS hT
   have VV_v31 := am_ (show V21.heap.size ≤ V21n17.heap.size from Nat.le_trans VV_v29.out hb.size)
   have GL_v31 := am_ (show gx < V21n17.heap.size from blk_lt BX_30.out)
   clear hb
   refine hK.out _ _ ⟨(blk_cell BL0_30.out 0).trans rfl, (blk_cell BL1_30.out 0).trans rfl, (blk_cell BL1_30.out 1).trans rfl⟩ (fun hHeld => ?_)
   clear hK K
   refine norm_ (a' := ?_) ?_ ?_
   rotate_left
   ·show Act.put _ (some 117) _ = _
    simp only [Act.put, List.setIfInBounds_toArray, List.set_cons_zero, List.set_cons_succ, i64_w, i32_w]
    rfl
   refine one_ (i := 5) (N := some 119) #[true, true, true, true, true, true, false, false, false, false, true, false, false] rfl rfl (one_of HT_.out (by kernel_rfl)) (by decide) (fun K hK => ?_)
   refine goes_ Try.func54 (by kernel_rfl) rfl #[.slice A3 rw.length c3] (by rfl) rfl rfl (by (try simp only [List.map_toArray, List.map_cons, List.map_nil]); first | done | rfl) ?_
   with_reducible refine (laws_toIntS.calls k _ _ rw rw _ (Kd.C_below CR.out HB_30.out) LR.out Gtoi.out).mono ?_
   rintro e V21n18 ⟨vd, rfl, hS, hb⟩
   refine ⟨_, rfl, ?_⟩
   obtain ⟨Ad, cd, rfl⟩ := Kd.R_slice hS
   have Rwr_32 := am_ (Kd.R_below Rwr_30.out hb)
   have Rwl_32 := am_ (Kd.R_below Rwl_30.out hb)
   have Rgr_32 := am_ (Kd.R_below Rgr_30.out hb)
   have Rgl_32 := am_ (Kd.R_below Rgl_30.out hb)
   have Ra_32 := am_ (Kd.S_below Ra_30.out hb)
   have Rb_32 := am_ (Kd.R_below Rb_n.out hb)
   have Rc_32 := am_ (Kd.R_below Rc_n.out hb)
   have BL0_32 := am_ (blk_below BL0_30.out hb)
   have BL1_32 := am_ (blk_below BL1_30.out hb)
   have Bw_32 := am_ (blk_below Bw_30.out hb)
   have Bx_32 := am_ (blk_below Bx_30.out hb)
   have By_32 := am_ (blk_below By_30.out hb)
   have Bg_32 := am_ (blk_below Bg_30.out hb)
   have BX_32 := am_ (blk_below BX_30.out hb)
   have HB_32 := am_ (below_then HB_30.out HB_30.out.size hb)
   clear Rwr_30 Rwl_30 Rgr_30 Rgl_30 Ra_30 Rb_n Rc_n BL0_30 BL1_30 Bw_30 Bx_30 By_30 Bg_30 BX_30 HB_30
   have Rd_n := am_ hS
   clear hS
   have VV_v33 := am_ (show V21.heap.size ≤ V21n18.heap.size from Nat.le_trans VV_v31.out hb.size)
   have GL_v33 := am_ (show gx < V21n18.heap.size from blk_lt BX_32.out)
   clear hb
   refine hK.out _ _ ⟨(blk_cell BL0_32.out 0).trans rfl, (blk_cell BL1_32.out 0).trans rfl, (blk_cell BL1_32.out 1).trans rfl⟩ (fun hHeld => ?_)
   clear hK K
   refine norm_ (a' := ?_) ?_ ?_
   rotate_left
   ·show Act.put _ (some 119) _ = _
    simp only [Act.put, List.setIfInBounds_toArray, List.set_cons_zero, List.set_cons_succ, i64_w, i32_w]
    rfl
   refine one_ (i := 6) (N := some 120) #[true, true, true, true, true, true, true, false, false, false, true, false, false] rfl rfl (one_of HT_.out (by kernel_rfl)) (by decide) (fun K hK => ?_)
   refine goes_ Try.func61 (by kernel_rfl) rfl #[.agg #[.slice Aa p.length ca], .agg #[.slice Ab sr.length cb, .slice Ac sl.length cc], .slice Ad rw.length cd] (by rfl) rfl rfl (by (try simp only [List.map_toArray, List.map_cons, List.map_nil]); first | done | rfl) ?_
   with_reducible refine (impl_TurnSeen.calls k _ _ p _ _ _ sr _ _ sl _ _ rw wr wl told _ (Kd.S_reads' Ra_32.out).2.2 (Kd.S_reads' Ra_32.out).2.1 (Kd.R_V Rb_32.out) (Kd.R_reads' Rc_32.out).2.2 (Kd.R_reads' Rc_32.out).2.1 (Kd.R_reads' Rd_n.out).2.2 (Kd.R_reads' Rd_n.out).2.1 Gim.out).mono ?_
   rintro e V21n19 ⟨ve, vf, rfl, hS, hT, hb⟩
   refine ⟨_, rfl, ?_⟩
   obtain ⟨Ae, ce, rfl⟩ := Kd.R_slice hS
   obtain ⟨Af, cf, rfl⟩ := Kd.R_slice hT
   have hle : w.heap.size ≤ V21n18.heap.size := HB_32.out.size
   have hvv : V21.heap.size ≤ V21n18.heap.size := VV_v33.out
   have Rwr_34 := am_ (Kd.R_below Rwr_32.out hb)
   have Rwl_34 := am_ (Kd.R_below Rwl_32.out hb)
   have Rgr_34 := am_ (Kd.R_below Rgr_32.out hb)
   have Rgl_34 := am_ (Kd.R_below Rgl_32.out hb)
   have BL0_34 := am_ (blk_below BL0_32.out hb)
   have BL1_34 := am_ (blk_below BL1_32.out hb)
   have Bw_34 := am_ (blk_below Bw_32.out hb)
   have Bx_34 := am_ (blk_below Bx_32.out hb)
   have By_34 := am_ (blk_below By_32.out hb)
   have Bg_34 := am_ (blk_below Bg_32.out hb)
   have BX_34 := am_ (blk_below BX_32.out hb)
   have HB_34 := am_ (below_then HB_32.out HB_32.out.size hb)
   clear Rwr_32 Rwl_32 Rgr_32 Rgl_32 BL0_32 BL1_32 Bw_32 Bx_32 By_32 Bg_32 BX_32 HB_32
   have hap := am_ (show ∀ j, some j = (Value.slice Ae wr.length ce).ownBlock → some j ≠ (Value.slice Af wl.length cf).ownBlock from fun j hj => (hS.1 j hj.symm).2)
   have hgl := GL_v33.out
   have Re_n := am_ (Kd.R_lower (Kd.R_mono (ok' := fun j => V21.heap.size ≤ j ∧ j < V21n19.heap.size ∧ j ≠ gx ∧ some j = (Value.slice Ae wr.length ce).ownBlock) (Kd.R_bound (Kd.R_tight rfl hS)) (fun j hj => ⟨Nat.le_trans hvv hj.2.1, hj.2.2.1, by have := hj.2.1; omega, hj.1⟩)) hle)
   have Rf_n := am_ (Kd.R_lower (Kd.R_mono (ok' := fun j => V21.heap.size ≤ j ∧ j < V21n19.heap.size ∧ j ≠ gx ∧ some j = (Value.slice Af wl.length cf).ownBlock) (Kd.R_bound (Kd.R_tight rfl hT)) (fun j hj => ⟨Nat.le_trans hvv hj.2.1, hj.2.2.1, by have := hj.2.1; omega, hj.1⟩)) hle)
   clear hS hT hle hvv hgl
   have VV_v35 := am_ (show V21.heap.size ≤ V21n19.heap.size from Nat.le_trans VV_v33.out hb.size)
   have GL_v35 := am_ (show gx < V21n19.heap.size from blk_lt BX_34.out)
   clear hb
   refine hK.out _ _ ⟨(blk_cell BL0_34.out 0).trans rfl, (blk_cell BL1_34.out 0).trans rfl, (blk_cell BL1_34.out 1).trans rfl⟩ (fun hHeld => ?_)
   clear hK K
   refine norm_ (a' := ?_) ?_ ?_
   rotate_left
   ·show Act.put _ (some 120) _ = _
    simp only [Act.put, List.setIfInBounds_toArray, List.set_cons_zero, List.set_cons_succ, i64_w, i32_w]
    rfl
   refine pure_ (i := 7) (N := some 113) (v := ?_) (a' := ?_) #[true, true, true, true, true, true, true, true, false, false, true, false, false] rfl rfl (any_of HT_.out (by kernel_rfl)) (fun _ _ _ h => h) (Or.inl ⟨by rfl, ?_⟩) ?_ ?_
   rotate_left
   ·intro w'
    go_simp
    with_reducible rfl
   rotate_left
   ·simp only [Act.put, List.setIfInBounds_toArray, List.set_cons_zero, List.set_cons_succ, i64_w, i32_w]
    rfl
   refine pure_ (i := 8) (N := some 121) (v := ?_) (a' := ?_) #[true, true, true, true, true, true, true, true, true, false, true, false, false] rfl rfl (any_of HT_.out (by kernel_rfl)) (fun _ _ _ h => h) (Or.inl ⟨by rfl, ?_⟩) ?_ ?_
   rotate_left
   ·intro w'
    go_simp
    with_reducible rfl
   rotate_left
   ·simp only [Act.put, List.setIfInBounds_toArray, List.set_cons_zero, List.set_cons_succ, i64_w, i32_w]
    rfl
   refine pure_ (i := 9) (N := some 122) (v := ?_) (a' := ?_) #[true, true, true, true, true, true, true, true, true, true, true, false, false] rfl rfl (any_of HT_.out (by kernel_rfl)) (fun _ _ _ h => h) (Or.inl ⟨by rfl, ?_⟩) ?_ ?_
   rotate_left
   ·intro w'
    go_simp
    with_reducible rfl
   rotate_left
   ·simp only [Act.put, List.setIfInBounds_toArray, List.set_cons_zero, List.set_cons_succ, i64_w, i32_w]
    rfl
   have zz := hCont (.slice Aa p.length ca, .slice Ab sr.length cb, .slice Ac sl.length cc, .slice Ad rw.length cd, .slice Ae wr.length ce, .slice Af wl.length cf, gx) _ ⟨⟨(blk_cell BL0_34.out 0).trans rfl, (blk_cell BL1_34.out 0).trans rfl, (blk_cell BL1_34.out 1).trans rfl⟩, BL0_34.out, BL1_34.out, Bw_34.out, Bx_34.out, By_34.out, Bg_34.out, Rwr_34.out, Rwl_34.out, Rgr_34.out, Rgl_34.out, BX_34.out, Re_n.out, Rf_n.out, hap.out, HB_34.out, GX.out, GL_v35.out⟩
   simp only [putAll, Act.put, List.setIfInBounds_toArray, List.set_cons_zero, List.set_cons_succ] at zz
   exact zz
 rintro ⟨va, vb, vc, vd, ve, vf, gq⟩ V22 ⟨-, hBL0, hBL1, hBw, hBx, hBy, hBg, hRwr, hRwl, hRgr, hRgl, hbx, hS, hT, hap, hB, hgx, hgl⟩
 simp only at hbx hS hT hap hgx hgl
 obtain ⟨Aqr, cqr, rfl⟩ := Kd.R_slice hS
 obtain ⟨Aql, cql, rfl⟩ := Kd.R_slice hT
 have APq := am_ hap
 clear hap BL0_25 BL1_25 Bw_25 Bx_25 By_25 Bg_25 Rwr_25 Rwl_25 Rgr_25 Rgl_25 HB_25
 refine norm_ (a' := ?_) ?_ ?_
 rotate_left
 ·simp only [putAll, Act.put, List.setIfInBounds_toArray, List.set_cons_zero, List.set_cons_succ, i64_w, i32_w]
  rfl
 refine one_ (i := 11) (N := none) #[true, true, true, true, true, true, true, true, true, true, true, true, false] rfl rfl (one_of HT_.out (by kernel_rfl)) (by decide) (fun K hK => ?_)
 have hs18 : V22.cell? ⟨gq, 0, none⟩ = some (.slice none 0 0) := (blk_cell hbx 0).trans rfl
 have hs19 : V22.cell? ⟨gq, 1, none⟩ = some (.slice none 0 0) := (blk_cell hbx 1).trans rfl
 have hfs18 := blk_frozen hbx 0
 have hfs19 := blk_frozen hbx 1
 refine skip_ (w1 := ?_) (by rfl) rfl ?_ ?_
 rotate_left
 ·go_simp
  rfl
 clear hs18 hfs18 hs19 hfs19
 have hbx1 := blk_set hbx 0 (.slice Aqr wr.length cqr)
 have hne : w.heap.size ≠ gq := by have := NL0V21.out; omega
 have BL0_sq := am_ (blk_far (blk_far hBL0 (p := ⟨gq, 0, none⟩) z21_1 (.slice Aqr wr.length cqr)) (p := ⟨gq, 1, none⟩) z21_1 (.slice Aql wl.length cql))
 clear hne
 have hne : w.heap.size + 1 ≠ gq := by have := NL1V21.out; omega
 have BL1_sq := am_ (blk_far (blk_far hBL1 (p := ⟨gq, 0, none⟩) z21_1 (.slice Aqr wr.length cqr)) (p := ⟨gq, 1, none⟩) z21_1 (.slice Aql wl.length cql))
 clear hne
 have hne : gw ≠ gq := by have := NwV21.out; omega
 have Bw_sq := am_ (blk_far (blk_far hBw (p := ⟨gq, 0, none⟩) z21_1 (.slice Aqr wr.length cqr)) (p := ⟨gq, 1, none⟩) z21_1 (.slice Aql wl.length cql))
 clear hne
 have hne : gx ≠ gq := by have := NxV21.out; omega
 have Bx_sq := am_ (blk_far (blk_far hBx (p := ⟨gq, 0, none⟩) z21_1 (.slice Aqr wr.length cqr)) (p := ⟨gq, 1, none⟩) z21_1 (.slice Aql wl.length cql))
 clear hne
 have hne : gy ≠ gq := by have := NyV21.out; omega
 have By_sq := am_ (blk_far (blk_far hBy (p := ⟨gq, 0, none⟩) z21_1 (.slice Aqr wr.length cqr)) (p := ⟨gq, 1, none⟩) z21_1 (.slice Aql wl.length cql))
 clear hne
 have hne : gg ≠ gq := by have := NgV21.out; omega
 have Bg_sq := am_ (blk_far (blk_far hBg (p := ⟨gq, 0, none⟩) z21_1 (.slice Aqr wr.length cqr)) (p := ⟨gq, 1, none⟩) z21_1 (.slice Aql wl.length cql))
 clear hne
 have Rwr_sq := am_ (Kd.R_set (Kd.R_set hRwr hbx (by decide) 0 (.slice Aqr wr.length cqr)) hbx1 (by decide) 1 (.slice Aql wl.length cql))
 have Rwl_sq := am_ (Kd.R_set (Kd.R_set hRwl hbx (by decide) 0 (.slice Aqr wr.length cqr)) hbx1 (by decide) 1 (.slice Aql wl.length cql))
 have Rgr_sq := am_ (Kd.R_set (Kd.R_set hRgr hbx (by decide) 0 (.slice Aqr wr.length cqr)) hbx1 (by decide) 1 (.slice Aql wl.length cql))
 have Rgl_sq := am_ (Kd.R_set (Kd.R_set hRgl hbx (by decide) 0 (.slice Aqr wr.length cqr)) hbx1 (by decide) 1 (.slice Aql wl.length cql))
 have Rqr_sq := am_ (Kd.R_set (Kd.R_set hS hbx (by decide) 0 (.slice Aqr wr.length cqr)) hbx1 (by decide) 1 (.slice Aql wl.length cql))
 have Rql_sq := am_ (Kd.R_set (Kd.R_set hT hbx (by decide) 0 (.slice Aqr wr.length cqr)) hbx1 (by decide) 1 (.slice Aql wl.length cql))
 have Bq_sq := am_ (show ((V22.setCell ⟨gq, 0, none⟩ (.slice Aqr wr.length cqr)).setCell ⟨gq, 1, none⟩ (.slice Aql wl.length cql)).heap[gq]? = some (Obj.cells #[Value.slice Aqr wr.length cqr, Value.slice Aql wl.length cql] 24) from blk_set hbx1 1 (.slice Aql wl.length cql))
 have HB_sq := am_ (below_set (g := gq) (j := 1) (v := .slice Aql wl.length cql) (below_set (g := gq) (j := 0) (v := .slice Aqr wr.length cqr) hB (by have := QV21.out; omega)) (by have := QV21.out; omega))
 have hz : ((V22.setCell ⟨gq, 0, none⟩ (.slice Aqr wr.length cqr)).setCell ⟨gq, 1, none⟩ (.slice Aql wl.length cql)).heap.size = V22.heap.size := (World.size_setCell _ _ _).trans (World.size_setCell _ _ _)
 clear hbx hbx1 hS hT hB hBL0 hBL1 hBw hBx hBy hBg hRwr hRwl hRgr hRgl
 refine hK.out _ _ ⟨(blk_cell BL0_sq.out 0).trans rfl, (blk_cell BL1_sq.out 0).trans rfl, (blk_cell BL1_sq.out 1).trans rfl⟩ (fun hHeld => ?_)
 clear hK K
 refine pure_ (i := 12) (N := some 19) (v := ?_) (a' := ?_) #[true, true, true, true, true, true, true, true, true, true, true, true, true] rfl rfl (any_of HT_.out (by kernel_rfl)) (fun _ _ _ h => h) (Or.inl ⟨by rfl, ?_⟩) ?_ ?_
 rotate_left
 ·intro w'
  go_simp
  with_reducible rfl
 rotate_left
 ·simp only [Act.put, List.setIfInBounds_toArray, List.set_cons_zero, List.set_cons_succ, i64_w, i32_w]
  rfl
 refine done_ (done_of HT_.out (by kernel_rfl)) ?_
 clear HT_ HW_ hHeld
 generalize ((V22.setCell ⟨gq, 0, none⟩ (.slice Aqr wr.length cqr)).setCell ⟨gq, 1, none⟩ (.slice Aql wl.length cql)) = V22s at *
 have Rqr_tq := am_ (Kd.R_mono (ok' := fun j => (V21.heap.size ≤ j ∧ j < V22s.heap.size ∧ j ≠ gq) ∧ some j = (Value.slice Aqr wr.length cqr).ownBlock) Rqr_sq.out (fun j hj => ⟨⟨hj.1, by have := hj.2.1; omega, hj.2.2.1⟩, hj.2.2.2⟩))
 have Rql_tq := am_ (Kd.R_mono (ok' := fun j => (V21.heap.size ≤ j ∧ j < V22s.heap.size ∧ j ≠ gq) ∧ some j = (Value.slice Aql wl.length cql).ownBlock) Rql_sq.out (fun j hj => ⟨⟨hj.1, by have := hj.2.1; omega, hj.2.2.1⟩, hj.2.2.2⟩))
 clear Rqr_sq Rql_sq
 have NGq := am_ (show V21.heap.size ≤ gq ∧ gq < V22s.heap.size from ⟨hgx, by omega⟩)
 clear hgx hgl hz
 have QV22s := am_ (show w.heap.size ≤ V22s.heap.size from HB_sq.out.size)
 have hl0 : V22s.cell? ⟨gq, 0, none⟩ = some (.slice Aqr wr.length cqr) := (blk_cell Bq_sq.out 0).trans rfl
 have hl1 : V22s.cell? ⟨gq, 1, none⟩ = some (.slice Aql wl.length cql) := (blk_cell Bq_sq.out 1).trans rfl
 have hl2 : V22s.cell? ⟨gw, 0, none⟩ = some (.slice Awr wr.length cwr) := (blk_cell Bw_sq.out 0).trans rfl
 have hl3 : V22s.cell? ⟨gw, 1, none⟩ = some (.slice Awl wl.length cwl) := (blk_cell Bw_sq.out 1).trans rfl
 go_wp2_with (go_at_call 24; refine park ?_)
 clear hl0 hl1 hl2 hl3
 refine ⟨?_⟩
 refine (laws_eqSeen.calls k _ _ wr _ _ wl _ _ wr _ _ wl true _ (Kd.R_reads' Rqr_tq.out).2.2 (Kd.R_reads' Rqr_tq.out).2.1 (Kd.R_reads' Rql_tq.out).2.2 (Kd.R_reads' Rql_tq.out).2.1 (Kd.R_reads' Rwr_sq.out).2.2 (Kd.R_reads' Rwr_sq.out).2.1 (Kd.R_reads' Rwl_sq.out).2.2 (Kd.R_reads' Rwl_sq.out).2.1 Geqw.out).mono ?_
 rintro e V23 ⟨rfl, hb⟩
 have Rwr_26 := am_ (Kd.R_below Rwr_sq.out hb)
 have Rwl_26 := am_ (Kd.R_below Rwl_sq.out hb)
 have Rgr_26 := am_ (Kd.R_below Rgr_sq.out hb)
 have Rgl_26 := am_ (Kd.R_below Rgl_sq.out hb)
 have Rqr_26 := am_ (Kd.R_below Rqr_tq.out hb)
 have Rql_26 := am_ (Kd.R_below Rql_tq.out hb)
 have BL0_26 := am_ (blk_below BL0_sq.out hb)
 have BL1_26 := am_ (blk_below BL1_sq.out hb)
 have Bw_26 := am_ (blk_below Bw_sq.out hb)
 have Bx_26 := am_ (blk_below Bx_sq.out hb)
 have By_26 := am_ (blk_below By_sq.out hb)
 have Bg_26 := am_ (blk_below Bg_sq.out hb)
 have Bq_26 := am_ (blk_below Bq_sq.out hb)
 have HB_26 := am_ (below_then HB_sq.out HB_sq.out.size hb)
 clear Rwr_sq Rwl_sq Rgr_sq Rgl_sq Rqr_tq Rql_tq BL0_sq BL1_sq Bw_sq Bx_sq By_sq Bg_sq Bq_sq HB_sq hb
 have hl0 : V23.cell? ⟨gg, 0, none⟩ = some (.slice Agr wr.length cgr) := (blk_cell Bg_26.out 0).trans rfl
 have hl1 : V23.cell? ⟨gg, 1, none⟩ = some (.slice Agl wl.length cgl) := (blk_cell Bg_26.out 1).trans rfl
 go_wp2_with (go_at_call 26; refine park ?_)
 clear hl0 hl1
 refine ⟨?_⟩
 have QV23 := am_ (show w.heap.size ≤ V23.heap.size from HB_26.out.size)
 have hw2 := (Kd.R_reads' Rgr_26.out)
 have hw3 := (Kd.R_reads' Rgl_26.out)
 rw [ELr.out] at hw2 ⊢
 rw [ELl.out] at hw3 ⊢
 refine (laws_heldSeen.calls k _ _ w2 _ _ w3 1 m _ hw2.2.2 hw2.2.1 hw3.2.2 hw3.2.1 Gheld.out).mono ?_
 rintro e V24 ⟨rfl, hb⟩
 have Rwr_27 := am_ (Kd.R_below Rwr_26.out hb)
 have Rwl_27 := am_ (Kd.R_below Rwl_26.out hb)
 have Rgr_27 := am_ (Kd.R_below Rgr_26.out hb)
 have Rgl_27 := am_ (Kd.R_below Rgl_26.out hb)
 have Rqr_27 := am_ (Kd.R_below Rqr_26.out hb)
 have Rql_27 := am_ (Kd.R_below Rql_26.out hb)
 have BL0_27 := am_ (blk_below BL0_26.out hb)
 have BL1_27 := am_ (blk_below BL1_26.out hb)
 have Bw_27 := am_ (blk_below Bw_26.out hb)
 have Bx_27 := am_ (blk_below Bx_26.out hb)
 have By_27 := am_ (blk_below By_26.out hb)
 have Bg_27 := am_ (blk_below Bg_26.out hb)
 have Bq_27 := am_ (blk_below Bq_26.out hb)
 have HB_27 := am_ (below_then HB_26.out HB_26.out.size hb)
 clear Rwr_26 Rwl_26 Rgr_26 Rgl_26 Rqr_26 Rql_26 BL0_26 BL1_26 Bw_26 Bx_26 By_26 Bg_26 Bq_26 HB_26 hb hw2 hw3
 go_wp2_with fail
 refine bodyPost_ret (results_tmp rfl _ _ _) rfl ?_
 exact ⟨rfl, HB_27.out⟩
def laws_FnExactTurnSeen.Pure : Prop := ∀ (l : List (List S130)) (sr sl rw : List Int), l.length ≤ 9223372036854775807 → (∀ t ∈ l, t.length ≤ 9223372036854775807) → sr.length ≤ 9223372036854775807 → sl.length ≤ 9223372036854775807 → ∃ k p p1 wr wl sr1 sl1 r2 w2 w3 told left left2 k1 k2 k3 m, (rw.length : Int) > 1048576 ∨ laws_FnExactTurnSeen.Facts k l sr sl rw p p1 wr wl sr1 sl1 r2 w2 w3 told left left2 k1 k2 k3 m
theorem laws_FnExactTurnSeen.walk (P : laws_FnExactTurnSeen.Pure) (A0 : Option Addr) (c0 : Nat) (l : List (List S130)) (A1 : Option Addr) (c1 : Nat) (sr : List Int) (A2 : Option Addr) (c2 : Nat) (sl : List Int) (A3 : Option Addr) (c3 : Nat) (rw : List Int) (w : World) (hr0 : Kd.C (Kd.slice 130 k130) w A0 l.length l) (hc0 : l.length ≤ c0) (hr1 : Kd.C (Kd.int .i64) w A1 sr.length sr) (hc1 : sr.length ≤ c1) (hr2 : Kd.C (Kd.int .i64) w A2 sl.length sl) (hc2 : sl.length ≤ c2) (hr3 : Kd.C (Kd.int .i64) w A3 rw.length rw) (hc3 : rw.length ≤ c3) :
  Calls Try.prog 21 #[.agg #[.slice A0 l.length c0], .agg #[.slice A1 sr.length c1, .slice A2 sl.length c2], .slice A3 rw.length c3] w fun e w' => e = .returned (.bool true) ∧ Below w.heap.size w w' := by
 obtain ⟨k, p, p1, wr, wl, sr1, sl1, r2, w2, w3, told, left, left2, k1, k2, k3, m, h⟩ := P l sr sl rw hr0.2.1 (fun t ht => by
  obtain ⟨j, hj, rfl⟩ := List.getElem_of_mem ht
  obtain ⟨ad, _, hc⟩ := hr0.2.2 (by omega)
  obtain ⟨c, _, hK, _⟩ := hc j _ (List.getElem?_eq_getElem hj)
  obtain ⟨A, c', _, _, hC⟩ := (show ((Kd.slice 130 k130)).K w l[j] c from hK)
  exact hC.2.1) hr1.2.1 hr2.2.1
 exact laws_FnExactTurnSeen.calls k A0 c0 l A1 c1 sr A2 c2 sl A3 c3 rw w p p1 wr wl sr1 sl1 r2 w2 w3 told left left2 k1 k2 k3 m hr0 hc0 hr1 hc1 hr2 hc2 hr3 hc3 h


end Go.Proofs.Ytefkbmhkhpekjaa.PB

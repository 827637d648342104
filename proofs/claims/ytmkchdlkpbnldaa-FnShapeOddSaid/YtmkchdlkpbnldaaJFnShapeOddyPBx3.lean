-- Written by this session's wip/myprint.py (the kit's print.py, with hand-written chunks). Lean checks it.
import Derived.Test.YtmkchdlkpbnldaaPBx0
import Derived.Test.YtmkchdlkpbnldaaPBx4
import Derived.Test.YtmkchdlkpbnldaaPBx5
import Derived.Test.YtmkchdlkpbnldaaPBx6
import Derived.Test.YtmkchdlkpbnldaaPBx7
import Derived.Test.YtmkchdlkpbnldaaPBx8
import Derived.Test.YtmkchdlkpbnldaaJFnShapeOddx0
namespace Go.Proofs.Ytmkchdlkpbnldaa.PB
open Go.RowKit Go.Proofs.YtmkchdlkpbnldaaW.PrintWords Go.Proofs.YtmkchdlkpbnldaaW.PrintLast Go.Proofs.YtmkchdlkpbnldaaW.PrintMore
attribute [local go_sem] max2_int min2_int max_two min_two max_three min_three max_four min_four   -- for this text's walks alone
open Go.Proofs.YtmkchdlkpbnldaaMine
set_option linter.unusedVariables false
set_option linter.unusedSimpArgs false

theorem z3_1 {p : Prop} (h : p := by first | rfl | (simp; done) | (simp [*]; done)) : p := h
theorem z3_2 {p : Prop} (h : p := by first | (with_reducible assumption) | assumption) : p := h
theorem z3_3 {p : Prop} (h : p := by first | rfl | (simp [errW_none, errW_some] <;> rfl) | (simp [*, errW_none, errW_some] <;> rfl)) : p := h
theorem z3_4 {p : Prop} (h : p := by simp only [putAll, Act.put, List.setIfInBounds_toArray, List.set_cons_zero, List.set_cons_succ]) : p := h
theorem z3_5 {p : Prop} (h : p := by repeat (first | (with_reducible first | exact HB.out | apply below_alloc | apply pw_below_drewN | apply below_drew1) | exact HB.out)) : p := h
theorem z3_6 {p : Prop} (h : p := by repeat (first | (with_reducible first | exact HB.out | apply below_alloc | apply pw_below_drewN | apply below_drew1 | refine below_set ?_ GE554.out) | exact HB.out)) : p := h
theorem z3_7 {p : Prop} (h : p := by repeat (first | (with_reducible exact HR573_0.out) | (with_reducible refine Kd.C_alloc ?_ _) | (with_reducible refine Kd.C_drewN ?_ _) | (with_reducible refine Kd.C_drew ?_) | exact HR573_0.out)) : p := h
theorem z3_8 {p : Prop} (h : p := by repeat (first | (with_reducible exact HR573_1.out) | (with_reducible refine Kd.C_alloc ?_ _) | (with_reducible refine Kd.C_drewN ?_ _) | (with_reducible refine Kd.C_drew ?_) | exact HR573_1.out)) : p := h
theorem z3_9 {p : Prop} (h : p := by repeat (first | (with_reducible first | exact HB.out | apply below_alloc | apply pw_below_drewN | apply below_drew1 | refine below_set ?_ GE554.out | refine below_set ?_ GE562.out) | exact HB.out)) : p := h
theorem z3_10 {p : Prop} (h : p := by repeat (first | (with_reducible first | exact HB.out | apply below_alloc | apply pw_below_drewN | apply below_drew1 | refine below_set ?_ GE554.out | refine below_set ?_ GE562.out | refine below_set ?_ GE569.out) | exact HB.out)) : p := h
theorem z3_11 {p : Prop} (h : p := by repeat (first | (with_reducible first | exact HB.out | apply below_alloc | apply pw_below_drewN | apply below_drew1 | refine below_set ?_ GE554.out | refine below_set ?_ GE562.out | refine below_set ?_ GE569.out | refine below_set ?_ GE581.out) | exact HB.out)) : p := h
theorem z3_12 {p : Prop} (h : p := by first | exact Kd.own_blk (Kd.N_away HO_10.out (fun _ hk => hk.2.2.2.2.2.2.2.2.2)) | (rw [add_block]; exact Kd.own_blk (Kd.N_away HO_10.out (fun _ hk => hk.2.2.2.2.2.2.2.2.2))) | (show (Addr.add _ _).block ≠ _; rw [add_block]; exact Kd.own_blk (Kd.N_away HO_10.out (fun _ hk => hk.2.2.2.2.2.2.2.2.2))) | (dsimp only; exact Kd.own_blk (Kd.N_away HO_10.out (fun _ hk => hk.2.2.2.2.2.2.2.2.2)))) : p := h
theorem z3_13 {p : Prop} (h : p := by (with_reducible repeat (first | refine blk_drewN ?_ _ | refine blk_drew ?_ | refine blk_alloc ?_ _)); refine blk_far ?_ NB554_562.out _; (with_reducible repeat (first | refine blk_drewN ?_ _ | refine blk_drew ?_ | refine blk_alloc ?_ _)); refine blk_far ?_ NB554_562.out _; (with_reducible repeat (first | refine blk_drewN ?_ _ | refine blk_drew ?_ | refine blk_alloc ?_ _)); exact BK554.out) : p := h
theorem z3_14 {p : Prop} (h : p := by (with_reducible repeat (first | refine blk_drewN ?_ _ | refine blk_drew ?_ | refine blk_alloc ?_ _)); refine blk_far ?_ NB554_581.out _; (with_reducible repeat (first | refine blk_drewN ?_ _ | refine blk_drew ?_ | refine blk_alloc ?_ _)); refine blk_far ?_ NB554_581.out _; (with_reducible repeat (first | refine blk_drewN ?_ _ | refine blk_drew ?_ | refine blk_alloc ?_ _)); exact BK554.out) : p := h
theorem z3_15 {p : Prop} (h : p := by (with_reducible repeat (first | refine blk_drewN ?_ _ | refine blk_drew ?_ | refine blk_alloc ?_ _)); refine blk_far ?_ NB562_581.out _; (with_reducible repeat (first | refine blk_drewN ?_ _ | refine blk_drew ?_ | refine blk_alloc ?_ _)); refine blk_far ?_ NB562_581.out _; (with_reducible repeat (first | refine blk_drewN ?_ _ | refine blk_drew ?_ | refine blk_alloc ?_ _)); exact BK562.out) : p := h
theorem z3_16 {p : Prop} (h : p := by (with_reducible repeat (first | refine blk_drewN ?_ _ | refine blk_drew ?_ | refine blk_alloc ?_ _)); refine blk_far ?_ NB569_581.out _; (with_reducible repeat (first | refine blk_drewN ?_ _ | refine blk_drew ?_ | refine blk_alloc ?_ _)); refine blk_far ?_ NB569_581.out _; (with_reducible repeat (first | refine blk_drewN ?_ _ | refine blk_drew ?_ | refine blk_alloc ?_ _)); exact BK569.out) : p := h
theorem z3_17 {p : Prop} (h : p := by (with_reducible repeat (first | refine blk_drewN ?_ _ | refine blk_drew ?_ | refine blk_alloc ?_ _)); refine blk_put (cs := #[.slice Ao15 t555.length co15, .slice none 0 0]) ?_ 1 _ rfl; (with_reducible repeat (first | refine blk_drewN ?_ _ | refine blk_drew ?_ | refine blk_alloc ?_ _)); refine blk_put (cs := #[.slice none 0 0, .slice none 0 0]) ?_ 0 _ rfl; (with_reducible repeat (first | refine blk_drewN ?_ _ | refine blk_drew ?_ | refine blk_alloc ?_ _)); exact BK562.out) : p := h
theorem z3_18 {p : Prop} (h : p := by first | exact q573 | exact of_decide_eq_true z3_2 | (have e_ := (Kd.N_reads' HO_10.out).1; omega)) : p := h
/-! ### laws_FnShapeOdd: function 3 -/
mutual
def laws_FnShapeOdd.j0 : Nat → Int → Bool → Bool → Bool → List Int → List Int → List Int → List Int → Option (Bool)
  | 0, _, _, _, _, _, _, _, _ => none
  | k + 1, x3, x5, x7, x41, x02, x03, x00, x01 => if x41 = true then (if (x7 == x5) = true then ((laws_lpSame.f k x00 x01 x02 x03).bind fun t564 => (some t564)) else (some false)) else ((impl_ShapeOf.f x3 0).bind fun bt565 => ((impl_ExecAll.f k bt565.1).bind fun t570 => (laws_FnShapeOdd.l0 k bt565.2 t570 0 x00 x01 bt565.1)))
def laws_FnShapeOdd.l0 : Nat → Bool → List (S40) → Int → List Int → List Int → List (List (S70)) → Option (Bool)
  | 0, _, _, _, _, _, _ => none
  | k + 1, x9, x10, x11, x00, x01, x04 => if x11 < (x10.length : Int) then (if 0 ≤ x11 then ((impl_ExecSeen.f k x04 ((rd_T40 x10 x11).f0) ((rd_T40 x10 x11).f1)).bind fun bt574 => ((laws_lpSame.f k bt574.1 bt574.2.1 x00 x01).bind fun t582 => (if t582 = true then (if x9 = true then ((impl_SeenOk.f k x04 x00 x01).bind fun t583 => (some t583)) else (some false)) else (laws_FnShapeOdd.l0 k x9 x10 (wrap64 (x11 + 1)) x00 x01 x04)))) else (none)) else (some false)
end
def laws_FnShapeOdd.f (k : Nat) (l0 : List Int) : Option (Bool) := if (l0.length : Int) > 1048576 then (some true) else ((spec_DrawShapeOdd.f k l0).bind fun t546 => ((spec_ShapeOdd.f k t546).bind fun bt547 => ((impl_ShapeOdd.f t546).bind fun bt555 => (if (bt555.2.2 != bt547.2.2) = true then (laws_FnShapeOdd.j0 k t546 bt547.2.2 bt555.2.2 true bt547.1 bt547.2.1 bt555.1 bt555.2.1) else ((laws_lpSame.f k bt555.1 bt555.2.1 bt547.1 bt547.2.1).bind fun t563 => (if t563 = true then (laws_FnShapeOdd.j0 k t546 bt547.2.2 bt555.2.2 (!bt555.2.2) bt547.1 bt547.2.1 bt555.1 bt555.2.1) else (laws_FnShapeOdd.j0 k t546 bt547.2.2 bt555.2.2 true bt547.1 bt547.2.1 bt555.1 bt555.2.1)))))))
def laws_FnShapeOdd.T13 : Bool × List (List Nat × List Nat) := (true, [([], []), ([], []), ([], []), ([1, 2], [1, 2]), ([3], [3]), ([0, 4], [0, 4]), ([5], [5]), ([6], [6]), ([6], [6]), ([], []), ([9, 7, 5, 0, 1, 2, 3, 4, 5, 6, 7, 9], [7, 9]), ([8, 10, 0, 1, 2, 3, 4, 5, 6, 7, 8, 9, 10], [8])])
def laws_FnShapeOdd.B13 : List Nat := [0, 0, 0, 6, 14, 31, 63, 127, 127, 0, 767, 2047]
theorem laws_FnShapeOdd.tab13 : rtab .any (opsOf Try.f3 13) = laws_FnShapeOdd.T13 := by kernel_rfl
theorem laws_FnShapeOdd.bits13 : waitsOk laws_FnShapeOdd.T13.2 laws_FnShapeOdd.B13 = true := by kernel_rfl
set_option maxHeartbeats 8000000 in
set_option maxRecDepth 100000 in
theorem laws_FnShapeOdd.calls (k : Nat) (A0 : Option Addr) (c0 : Nat) (l0 : List Int) (r : Bool) (w : World) (hr0 : Kd.C (Kd.int .u8) w A0 l0.length l0) (hc0 : l0.length ≤ c0) (h : laws_FnShapeOdd.f k l0 = some r) :
  Calls Try.prog 3 #[.slice A0 l0.length c0] w fun e w' => e = .returned (.bool r) ∧ Below w.heap.size w w' := by
 have hu26 := Try.underlying26
 have hu32 := Try.underlying32
 have hu40 := Try.underlying40
 have HR0 := am_ hr0
 have HC0 := am_ hc0
 clear hr0 hc0
 have HB := am_ (Below.refl w.heap.size w)
 have H : (if (l0.length : Int) > 1048576 then (some true) else ((spec_DrawShapeOdd.f k l0).bind fun t546 => ((spec_ShapeOdd.f k t546).bind fun bt547 => ((impl_ShapeOdd.f t546).bind fun bt555 => (if (bt555.2.2 != bt547.2.2) = true then (laws_FnShapeOdd.j0 k t546 bt547.2.2 bt555.2.2 true bt547.1 bt547.2.1 bt555.1 bt555.2.1) else ((laws_lpSame.f k bt555.1 bt555.2.1 bt547.1 bt547.2.1).bind fun t563 => (if t563 = true then (laws_FnShapeOdd.j0 k t546 bt547.2.2 bt555.2.2 (!bt555.2.2) bt547.1 bt547.2.1 bt555.1 bt555.2.1) else (laws_FnShapeOdd.j0 k t546 bt547.2.2 bt555.2.2 true bt547.1 bt547.2.1 bt555.1 bt555.2.1)))))))) = some r := h
 clear h
 by_cases c2 : (l0.length : Int) > 1048576
 ·rw [if_pos c2] at H
  have c2b0 : decide (1048576 < (l0.length : Int)) = true := decide_eq_true c2
  have c2b1 : decide (1048576 < l0.length) = true := decide_eq_true (by omega)
  clear c2
  obtain rfl := Option.some.inj H
  go_enter Try.func3, Try.ntmps3
  go_wp2
  go_ret
  exact ⟨z3_3, z3_5⟩
 rw [if_neg c2] at H
 have c2b0 : decide (1048576 < (l0.length : Int)) = false := decide_eq_false c2
 have c2b1 : decide (1048576 < l0.length) = false := decide_eq_false (by omega)
 clear c2
 replace H := Option.bind_eq_some_iff.mp H
 obtain ⟨t546, A30, H⟩ := H
 replace H : ((spec_ShapeOdd.f k t546).bind fun bt547 => ((impl_ShapeOdd.f t546).bind fun bt555 => (if (bt555.2.2 != bt547.2.2) = true then (laws_FnShapeOdd.j0 k t546 bt547.2.2 bt555.2.2 true bt547.1 bt547.2.1 bt555.1 bt555.2.1) else ((laws_lpSame.f k bt555.1 bt555.2.1 bt547.1 bt547.2.1).bind fun t563 => (if t563 = true then (laws_FnShapeOdd.j0 k t546 bt547.2.2 bt555.2.2 (!bt555.2.2) bt547.1 bt547.2.1 bt555.1 bt555.2.1) else (laws_FnShapeOdd.j0 k t546 bt547.2.2 bt555.2.2 true bt547.1 bt547.2.1 bt555.1 bt555.2.1)))))) = some r := H
 have A3 := am_ A30
 clear A30
 replace H := Option.bind_eq_some_iff.mp H
 obtain ⟨⟨t547, t550, t553⟩, A40, H⟩ := H
 replace H : ((impl_ShapeOdd.f t546).bind fun bt555 => (if (bt555.2.2 != t553) = true then (laws_FnShapeOdd.j0 k t546 t553 bt555.2.2 true t547 t550 bt555.1 bt555.2.1) else ((laws_lpSame.f k bt555.1 bt555.2.1 t547 t550).bind fun t563 => (if t563 = true then (laws_FnShapeOdd.j0 k t546 t553 bt555.2.2 (!bt555.2.2) t547 t550 bt555.1 bt555.2.1) else (laws_FnShapeOdd.j0 k t546 t553 bt555.2.2 true t547 t550 bt555.1 bt555.2.1))))) = some r := H
 have A4 := am_ A40
 clear A40
 replace H := Option.bind_eq_some_iff.mp H
 obtain ⟨⟨t555, t558, t561⟩, A50, H⟩ := H
 replace H : (if (t561 != t553) = true then (laws_FnShapeOdd.j0 k t546 t553 t561 true t547 t550 t555 t558) else ((laws_lpSame.f k t555 t558 t547 t550).bind fun t563 => (if t563 = true then (laws_FnShapeOdd.j0 k t546 t553 t561 (!t561) t547 t550 t555 t558) else (laws_FnShapeOdd.j0 k t546 t553 t561 true t547 t550 t555 t558)))) = some r := H
 have A5 := am_ A50
 clear A50
 have HC6 := am_ H
 clear H
 go_enter Try.func3, Try.ntmps3
 go_upto_region 6 with (first | ((with_reducible refine gate_callee (f := 4) rfl ?_); refine goesL_ (some 18) rfl rfl Try.func4 (by kernel_rfl) rfl #[.slice A0 l0.length c0] rfl (by (try simp only [List.map_toArray, List.map_cons, List.map_nil]); first | done | rfl | (simp only [List.length_drop, List.length_take]; rfl)) ?_; (with_reducible refine (spec_DrawShapeOdd.calls k _ _ l0 t546 _ ?side1 ?side2 A3.out).mono ?_); (case side1 => repeat (first | exact HR0.out | (with_reducible refine Kd.C_alloc ?_ _) | (with_reducible refine Kd.C_drewN ?_ _) | (with_reducible refine Kd.C_drew ?_))); (case side2 => exact HC0.out); rintro e w7 ⟨rfl, hb⟩; refine ⟨_, rfl, ?_⟩; replace HB := am_ (below_step z3_5 hb); (try clear hb); (try clear hb2); (try clear hk); (try clear hi)) | ((with_reducible refine gate_callee (f := 5) rfl ?_); refine goesL_ (some 21) rfl rfl Try.func5 (by kernel_rfl) rfl #[.int .i64 t546] rfl (by (try simp only [List.map_toArray, List.map_cons, List.map_nil]); first | done | rfl | (simp only [List.length_drop, List.length_take]; rfl)) ?_; (with_reducible refine (spec_ShapeOdd.calls k t546 t547 t550 t553 _ A4.out).mono ?_); rintro e w8 ⟨v548, v551, rfl, ho0, ho1, hb⟩; refine ⟨_, rfl, ?_⟩; have HO549 := am_ (Kd.R_lower ho0 (below_size z3_5)); have HO552 := am_ (Kd.R_lower ho1 (below_size z3_5)); replace HB := am_ (below_step z3_5 hb); (try clear hb); (try clear hb2); (try clear hk); (try clear hi); (try clear ho0); (try clear ho1)) | ((with_reducible refine gate_dst (N := 4) rfl ?_); refine box_event ?hg (N := 4) ?hd (cs := #[.slice none 0 0, .slice none 0 0]) (t := 26) ?hr ?_; (case hd => rfl); (case hg => rfl); (case hr => first | (go_simp; done) | (go_simp; rfl)); intro gb554 hg w9 hbox hb; have n0_ := am_ (Kd.R_below (ru HO549.out) hb); have n1_ := am_ (Kd.R_below (ru HO552.out) hb); have n2_ := am_ (below_step z3_5 hb); have n3_ := am_ (hbox); have n4_ := am_ (by rw [hg]; exact (below_size z3_5) : w.heap.size ≤ gb554); have n5_ := am_ (by rw [hg]; exact (below_size z3_5) : w.heap.size ≤ gb554); clear HO549 HO552 HB; have HO549 := n0_; have HO552 := n1_; have HB := n2_; have BK554 := n3_; have GW554 := n4_; have GE554 := n5_; clear n0_ n1_ n2_ n3_ n4_ n5_; clear hb hbox hg; obtain ⟨Ao10, co10, eo10⟩ := Kd.R_slice HO549.out; subst eo10; have hcz11_0 := cf0 BK554.out; have hcz11_1 := cf1 BK554.out; have hfz11_0 := blk_frozen BK554.out 0; have hfz11_1 := blk_frozen BK554.out 1; obtain ⟨Ao12, co12, eo12⟩ := Kd.R_slice HO552.out; subst eo12) | ((with_reducible refine gate_callee (f := 6) rfl ?_); refine goesL_ (some 26) rfl rfl Try.func6 (by kernel_rfl) rfl #[.int .i64 t546] rfl (by (try simp only [List.map_toArray, List.map_cons, List.map_nil]); first | done | rfl | (simp only [List.length_drop, List.length_take]; rfl)) ?_; (with_reducible refine (impl_ShapeOdd.calls t546 t555 t558 t561 _ A5.out).mono ?_); rintro e w13 ⟨v556, v559, rfl, ho0, ho1, hb⟩; refine ⟨_, rfl, ?_⟩; have n0_ := am_ (Kd.R_mono (Kd.R_told (Kd.R_told (Kd.R_old (ru (Kd.R_mono (Kd.R_far (p := ⟨gb554, 1, none⟩) (Kd.R_far (p := ⟨gb554, 0, none⟩) (Kd.R_types HO549.out BK554.out (by decide)) (fun _ hk => hk.2) (.slice Ao10 t547.length co10)) (fun _ hk => hk.2) (.slice Ao12 t550.length co12)) (fun _ h_ => h_.1))) hb) (Kd.R_base ho0)) (Kd.R_base ho1)) (fun _ h_ => h_.1)); have n1_ := am_ (Kd.R_mono (Kd.R_told (Kd.R_told (Kd.R_old (ru (Kd.R_mono (Kd.R_far (p := ⟨gb554, 1, none⟩) (Kd.R_far (p := ⟨gb554, 0, none⟩) (Kd.R_types HO552.out BK554.out (by decide)) (fun _ hk => hk.2) (.slice Ao10 t547.length co10)) (fun _ hk => hk.2) (.slice Ao12 t550.length co12)) (fun _ h_ => h_.1))) hb) (Kd.R_base ho0)) (Kd.R_base ho1)) (fun _ h_ => h_.1)); have n2_ := am_ (Kd.R_lower (Kd.R_new' (Kd.R_new' ho0 (Kd.R_lt (ru (Kd.R_mono (Kd.R_far (p := ⟨gb554, 1, none⟩) (Kd.R_far (p := ⟨gb554, 0, none⟩) (Kd.R_types HO549.out BK554.out (by decide)) (fun _ hk => hk.2) (.slice Ao10 t547.length co10)) (fun _ hk => hk.2) (.slice Ao12 t550.length co12)) (fun _ h_ => h_.1))))) (Kd.R_lt (ru (Kd.R_mono (Kd.R_far (p := ⟨gb554, 1, none⟩) (Kd.R_far (p := ⟨gb554, 0, none⟩) (Kd.R_types HO552.out BK554.out (by decide)) (fun _ hk => hk.2) (.slice Ao10 t547.length co10)) (fun _ hk => hk.2) (.slice Ao12 t550.length co12)) (fun _ h_ => h_.1))))) (below_size z3_6)); have n3_ := am_ (Kd.R_lower (Kd.R_new' (Kd.R_new' ho1 (Kd.R_lt (ru (Kd.R_mono (Kd.R_far (p := ⟨gb554, 1, none⟩) (Kd.R_far (p := ⟨gb554, 0, none⟩) (Kd.R_types HO549.out BK554.out (by decide)) (fun _ hk => hk.2) (.slice Ao10 t547.length co10)) (fun _ hk => hk.2) (.slice Ao12 t550.length co12)) (fun _ h_ => h_.1))))) (Kd.R_lt (ru (Kd.R_mono (Kd.R_far (p := ⟨gb554, 1, none⟩) (Kd.R_far (p := ⟨gb554, 0, none⟩) (Kd.R_types HO552.out BK554.out (by decide)) (fun _ hk => hk.2) (.slice Ao10 t547.length co10)) (fun _ hk => hk.2) (.slice Ao12 t550.length co12)) (fun _ h_ => h_.1))))) (below_size z3_6)); have n4_ := am_ (blk_below (g := gb554) (o := .cells #[.slice Ao10 t547.length co10, .slice Ao12 t550.length co12] 26 (0, 0)) (by (with_reducible repeat (first | refine blk_drewN ?_ _ | refine blk_drew ?_ | refine blk_alloc ?_ _)); refine blk_put (cs := #[.slice Ao10 t547.length co10, .slice none 0 0]) ?_ 1 _ rfl; (with_reducible repeat (first | refine blk_drewN ?_ _ | refine blk_drew ?_ | refine blk_alloc ?_ _)); refine blk_put (cs := #[.slice none 0 0, .slice none 0 0]) ?_ 0 _ rfl; (with_reducible repeat (first | refine blk_drewN ?_ _ | refine blk_drew ?_ | refine blk_alloc ?_ _)); exact BK554.out) hb); have n5_ := am_ (below_step z3_6 hb); clear HO549 HO552 BK554 HB; have HO549 := n0_; have HO552 := n1_; have HO557 := n2_; have HO560 := n3_; have BK554 := n4_; have HB := n5_; clear n0_ n1_ n2_ n3_ n4_ n5_; (try clear hb); (try clear hb2); (try clear hk); (try clear hi); (try clear ho0); (try clear ho1)) | ((with_reducible refine gate_dst (N := 6) rfl ?_); refine box_event ?hg (N := 6) ?hd (cs := #[.slice none 0 0, .slice none 0 0]) (t := 26) ?hr ?_; (case hd => rfl); (case hg => rfl); (case hr => first | (go_simp; done) | (go_simp; rfl)); intro gb562 hg w14 hbox hb; have n0_ := am_ (Kd.R_below (ru HO549.out) hb); have n1_ := am_ (Kd.R_below (ru HO552.out) hb); have n2_ := am_ (Kd.R_below (ru HO557.out) hb); have n3_ := am_ (Kd.R_below (ru HO560.out) hb); have n4_ := am_ (blk_below (bu BK554.out) hb); have n5_ := am_ (below_step z3_6 hb); have n6_ := am_ (hbox); have n7_ := am_ (by rw [hg]; exact (below_size z3_6) : w.heap.size ≤ gb562); have n8_ := am_ (by rw [hg]; exact (below_size z3_6) : w.heap.size ≤ gb562); have n9_ := am_ (by rw [hg]; exact Nat.ne_of_lt (blk_lt (bu BK554.out)) : gb554 ≠ gb562); have n10_ := am_ (by rw [hg]; exact Nat.ne_of_gt (blk_lt (bu BK554.out)) : gb562 ≠ gb554); clear HO549 HO552 HO557 HO560 BK554 HB; have HO549 := n0_; have HO552 := n1_; have HO557 := n2_; have HO560 := n3_; have BK554 := n4_; have HB := n5_; have BK562 := n6_; have GW562 := n7_; have GE562 := n8_; have NB554_562 := n9_; have NB562_554 := n10_; clear n0_ n1_ n2_ n3_ n4_ n5_ n6_ n7_ n8_ n9_ n10_; clear hb hbox hg; obtain ⟨Ao15, co15, eo15⟩ := Kd.R_slice HO557.out; subst eo15; have hnb16 := NB562_554.out; have hnc16 := NB554_562.out; have hcz17_0 := cf0 BK562.out; have hcz17_1 := cf1 BK562.out; have hfz17_0 := blk_frozen BK562.out 0; have hfz17_1 := blk_frozen BK562.out 1; obtain ⟨Ao18, co18, eo18⟩ := Kd.R_slice HO560.out; subst eo18))
 (try simp only [Act.put, List.setIfInBounds_toArray, List.set_cons_zero, List.set_cons_succ])
 go_cut [41] (fun v41 wc => ∃ (kq : Nat) (x41_5 : Bool), v41 = .bool x41_5 ∧ Aside0 (laws_FnShapeOdd.j0 kq t546 t553 t561 x41_5 t547 t550 t555 t558 = some r) ∧ Aside0 (kq ≤ k) ∧ Aside0 (Kd.R (Kd.int .i64) 3 wc w.heap.size (fun k_ => some k_ ≠ ((.slice Ao12 t550.length co12) : Value).ownBlock ∧ some k_ ≠ ((.slice Ao15 t555.length co15) : Value).ownBlock ∧ some k_ ≠ ((.slice Ao18 t558.length co18) : Value).ownBlock) (.slice Ao10 t547.length co10) t547) ∧ Aside0 (Kd.R (Kd.int .i64) 3 wc w.heap.size (fun k_ => some k_ ≠ ((.slice Ao10 t547.length co10) : Value).ownBlock ∧ some k_ ≠ ((.slice Ao15 t555.length co15) : Value).ownBlock ∧ some k_ ≠ ((.slice Ao18 t558.length co18) : Value).ownBlock) (.slice Ao12 t550.length co12) t550) ∧ Aside0 (Kd.R (Kd.int .i64) 3 wc w.heap.size (fun k_ => some k_ ≠ ((.slice Ao10 t547.length co10) : Value).ownBlock ∧ some k_ ≠ ((.slice Ao12 t550.length co12) : Value).ownBlock ∧ some k_ ≠ ((.slice Ao18 t558.length co18) : Value).ownBlock) (.slice Ao15 t555.length co15) t555) ∧ Aside0 (Kd.R (Kd.int .i64) 3 wc w.heap.size (fun k_ => some k_ ≠ ((.slice Ao10 t547.length co10) : Value).ownBlock ∧ some k_ ≠ ((.slice Ao12 t550.length co12) : Value).ownBlock ∧ some k_ ≠ ((.slice Ao15 t555.length co15) : Value).ownBlock) (.slice Ao18 t558.length co18) t558) ∧ Aside0 (wc.heap[gb554]? = some (.cells #[(.slice Ao10 t547.length co10), (.slice Ao12 t550.length co12)] 26 (0, 0))) ∧ Aside0 (wc.heap[gb562]? = some (.cells #[(.slice Ao15 t555.length co15), (.slice Ao18 t558.length co18)] 26 (0, 0))) ∧ Aside0 (Below w.heap.size w wc))
 case first =>
  have H := HC6.out
  clear HC6
  by_cases c19 : (t561 != t553) = true
  ·rw [if_pos c19] at H
   have c19b0 : (t561 != t553) = true := c19
   (try (have c19b1 : decide (t561 = t553) = false := by simpa using c19))
   (try (have c19b2 : (t561 == t553) = false := by simpa using c19))
   (try (have c19b3 : ¬ (t561 = t553) := by simpa using c19))
   clear c19
   (first | rw [c19b0] | (simp only [i64_w, i32_w]; rw [c19b0]) | skip)
   have H' := am_ H
   clear H
   go_wp2
   go_meet
   case rel => exact ⟨_, (true), z3_1, H', ⟨by first | omega | exact Nat.le_refl _⟩, ⟨ru (Kd.R_mono (Kd.R_far (p := ⟨gb562, 1, none⟩) (Kd.R_far (p := ⟨gb562, 0, none⟩) (Kd.R_types HO549.out BK562.out (by decide)) (fun _ hk => hk.2) (.slice Ao15 t555.length co15)) (fun _ hk => hk.2) (.slice Ao18 t558.length co18)) (fun _ hk => ⟨hk.1.1.1, ⟨hk.1.1.2, hk.1.2⟩⟩))⟩, ⟨ru (Kd.R_mono (Kd.R_far (p := ⟨gb562, 1, none⟩) (Kd.R_far (p := ⟨gb562, 0, none⟩) (Kd.R_types HO552.out BK562.out (by decide)) (fun _ hk => hk.2) (.slice Ao15 t555.length co15)) (fun _ hk => hk.2) (.slice Ao18 t558.length co18)) (fun _ hk => ⟨hk.1.1.1, ⟨hk.1.1.2, hk.1.2⟩⟩))⟩, ⟨ru (Kd.R_mono (Kd.R_far (p := ⟨gb562, 1, none⟩) (Kd.R_far (p := ⟨gb562, 0, none⟩) (Kd.R_types HO557.out BK562.out (by decide)) (fun _ hk => hk.2) (.slice Ao15 t555.length co15)) (fun _ hk => hk.2) (.slice Ao18 t558.length co18)) (fun _ hk => ⟨hk.1.1.2, ⟨hk.1.2, hk.1.1.1⟩⟩))⟩, ⟨ru (Kd.R_mono (Kd.R_far (p := ⟨gb562, 1, none⟩) (Kd.R_far (p := ⟨gb562, 0, none⟩) (Kd.R_types HO560.out BK562.out (by decide)) (fun _ hk => hk.2) (.slice Ao15 t555.length co15)) (fun _ hk => hk.2) (.slice Ao18 t558.length co18)) (fun _ hk => ⟨hk.1.1.2, ⟨hk.1.2, hk.1.1.1⟩⟩))⟩, ⟨z3_13⟩, ⟨z3_17⟩, ⟨z3_9⟩⟩
  rw [if_neg c19] at H
  have c19b0 : (t561 != t553) = false := by simpa using c19
  (try (have c19b1 : decide (t561 = t553) = true := by simpa using c19))
  (try (have c19b2 : (t561 == t553) = true := by simpa using c19))
  clear c19
  (first | rw [c19b0] | (simp only [i64_w, i32_w]; rw [c19b0]) | skip)
  replace H := Option.bind_eq_some_iff.mp H
  obtain ⟨t563, A200, H⟩ := H
  replace H : (if t563 = true then (laws_FnShapeOdd.j0 k t546 t553 t561 (!t561) t547 t550 t555 t558) else (laws_FnShapeOdd.j0 k t546 t553 t561 true t547 t550 t555 t558)) = some r := H
  have A20 := am_ A200
  clear A200
  by_cases c21 : t563 = true
  ·subst c21
   have H1 : (laws_FnShapeOdd.j0 k t546 t553 t561 (!t561) t547 t550 t555 t558) = some r := by rw [if_pos rfl] at H; exact H
   clear H
   have H := H1
   clear H1
   have H' := am_ H
   clear H
   have hnb22 := NB562_554.out
   have hnc22 := NB554_562.out
   have hcz23_0 := cf0 BK562.out
   have hcz23_1 := cf1 BK562.out
   have hfz23_0 := blk_frozen BK562.out 0
   have hfz23_1 := blk_frozen BK562.out 1
   have hcz24_0 := cf0 BK554.out
   have hcz24_1 := cf1 BK554.out
   have hfz24_0 := blk_frozen BK554.out 0
   have hfz24_1 := blk_frozen BK554.out 1
   go_wp2_with (first | (go_at_call 7; (with_reducible refine (laws_lpSame.calls k _ _ t555 _ _ t558 _ _ t547 _ _ t550 true _ ?side1 ?side2 ?side3 ?side4 ?side5 ?side6 ?side7 ?side8 A20.out).mono ?_); (case side1 => refine (Kd.R_reads' (e := 3) (base := w.heap.size) (ok := fun k_ => ((some k_ ≠ (.slice Ao18 t558.length co18 : Value).ownBlock ∧ some k_ ≠ (.slice Ao10 t547.length co10 : Value).ownBlock) ∧ some k_ ≠ (.slice Ao12 t550.length co12 : Value).ownBlock)) (n := t555.length) (c := co15) ?_).2.2; exact (ru (Kd.R_mono (Kd.R_far (p := ⟨gb562, 1, none⟩) (Kd.R_far (p := ⟨gb562, 0, none⟩) (Kd.R_types HO557.out BK562.out (by decide)) (fun _ hk => hk.2) (.slice Ao15 t555.length co15)) (fun _ hk => hk.2) (.slice Ao18 t558.length co18)) (fun _ h_ => h_.1)))); (case side2 => exact (Kd.R_reads' HO557.out).2.1); (case side3 => refine (Kd.R_reads' (e := 3) (base := w.heap.size) (ok := fun k_ => ((some k_ ≠ (.slice Ao15 t555.length co15 : Value).ownBlock ∧ some k_ ≠ (.slice Ao10 t547.length co10 : Value).ownBlock) ∧ some k_ ≠ (.slice Ao12 t550.length co12 : Value).ownBlock)) (n := t558.length) (c := co18) ?_).2.2; exact (ru (Kd.R_mono (Kd.R_far (p := ⟨gb562, 1, none⟩) (Kd.R_far (p := ⟨gb562, 0, none⟩) (Kd.R_types HO560.out BK562.out (by decide)) (fun _ hk => hk.2) (.slice Ao15 t555.length co15)) (fun _ hk => hk.2) (.slice Ao18 t558.length co18)) (fun _ h_ => h_.1)))); (case side4 => exact (Kd.R_reads' HO560.out).2.1); (case side5 => refine (Kd.R_reads' (e := 3) (base := w.heap.size) (ok := fun k_ => ((some k_ ≠ (.slice Ao12 t550.length co12 : Value).ownBlock ∧ some k_ ≠ (.slice Ao15 t555.length co15 : Value).ownBlock) ∧ some k_ ≠ (.slice Ao18 t558.length co18 : Value).ownBlock)) (n := t547.length) (c := co10) ?_).2.2; exact (ru (Kd.R_mono (Kd.R_far (p := ⟨gb562, 1, none⟩) (Kd.R_far (p := ⟨gb562, 0, none⟩) (Kd.R_types HO549.out BK562.out (by decide)) (fun _ hk => hk.2) (.slice Ao15 t555.length co15)) (fun _ hk => hk.2) (.slice Ao18 t558.length co18)) (fun _ h_ => h_.1)))); (case side6 => exact (Kd.R_reads' HO549.out).2.1); (case side7 => refine (Kd.R_reads' (e := 3) (base := w.heap.size) (ok := fun k_ => ((some k_ ≠ (.slice Ao10 t547.length co10 : Value).ownBlock ∧ some k_ ≠ (.slice Ao15 t555.length co15 : Value).ownBlock) ∧ some k_ ≠ (.slice Ao18 t558.length co18 : Value).ownBlock)) (n := t550.length) (c := co12) ?_).2.2; exact (ru (Kd.R_mono (Kd.R_far (p := ⟨gb562, 1, none⟩) (Kd.R_far (p := ⟨gb562, 0, none⟩) (Kd.R_types HO552.out BK562.out (by decide)) (fun _ hk => hk.2) (.slice Ao15 t555.length co15)) (fun _ hk => hk.2) (.slice Ao18 t558.length co18)) (fun _ h_ => h_.1)))); (case side8 => exact (Kd.R_reads' HO552.out).2.1); rintro e w25 ⟨rfl, hb⟩; replace HO549 := am_ (Kd.R_below (ru (Kd.R_mono (Kd.R_far (p := ⟨gb562, 1, none⟩) (Kd.R_far (p := ⟨gb562, 0, none⟩) (Kd.R_types HO549.out BK562.out (by decide)) (fun _ hk => hk.2) (.slice Ao15 t555.length co15)) (fun _ hk => hk.2) (.slice Ao18 t558.length co18)) (fun _ h_ => h_.1))) hb); replace HO552 := am_ (Kd.R_below (ru (Kd.R_mono (Kd.R_far (p := ⟨gb562, 1, none⟩) (Kd.R_far (p := ⟨gb562, 0, none⟩) (Kd.R_types HO552.out BK562.out (by decide)) (fun _ hk => hk.2) (.slice Ao15 t555.length co15)) (fun _ hk => hk.2) (.slice Ao18 t558.length co18)) (fun _ h_ => h_.1))) hb); replace HO557 := am_ (Kd.R_below (ru (Kd.R_mono (Kd.R_far (p := ⟨gb562, 1, none⟩) (Kd.R_far (p := ⟨gb562, 0, none⟩) (Kd.R_types HO557.out BK562.out (by decide)) (fun _ hk => hk.2) (.slice Ao15 t555.length co15)) (fun _ hk => hk.2) (.slice Ao18 t558.length co18)) (fun _ h_ => h_.1))) hb); replace HO560 := am_ (Kd.R_below (ru (Kd.R_mono (Kd.R_far (p := ⟨gb562, 1, none⟩) (Kd.R_far (p := ⟨gb562, 0, none⟩) (Kd.R_types HO560.out BK562.out (by decide)) (fun _ hk => hk.2) (.slice Ao15 t555.length co15)) (fun _ hk => hk.2) (.slice Ao18 t558.length co18)) (fun _ h_ => h_.1))) hb); replace BK554 := am_ (blk_below (g := gb554) (o := .cells #[.slice Ao10 t547.length co10, .slice Ao12 t550.length co12] 26 (0, 0)) z3_13 hb); replace BK562 := am_ (blk_below (g := gb562) (o := .cells #[.slice Ao15 t555.length co15, .slice Ao18 t558.length co18] 26 (0, 0)) z3_17 hb); replace HB := am_ (below_step z3_9 hb); (try clear hb); (try clear hb2); (try clear hk); (try clear hi)))
   go_meet
   case rel => exact ⟨_, (!t561), z3_1, H', ⟨by first | omega | exact Nat.le_refl _⟩, ⟨ru (Kd.R_mono HO549.out (fun _ hk => ⟨hk.1.1, ⟨hk.1.2, hk.2⟩⟩))⟩, ⟨ru (Kd.R_mono HO552.out (fun _ hk => ⟨hk.1.1, ⟨hk.1.2, hk.2⟩⟩))⟩, ⟨ru (Kd.R_mono HO557.out (fun _ hk => ⟨hk.1.2, ⟨hk.2, hk.1.1⟩⟩))⟩, ⟨ru (Kd.R_mono HO560.out (fun _ hk => ⟨hk.1.2, ⟨hk.2, hk.1.1⟩⟩))⟩, ⟨bu BK554.out⟩, ⟨bu BK562.out⟩, ⟨z3_9⟩⟩
  replace c21 := Bool.eq_false_iff.mpr c21
  subst c21
  have H1 : (laws_FnShapeOdd.j0 k t546 t553 t561 true t547 t550 t555 t558) = some r := by rw [if_neg (show ¬ (false = true) by decide)] at H; exact H
  clear H
  have H := H1
  clear H1
  have H' := am_ H
  clear H
  have hnb26 := NB562_554.out
  have hnc26 := NB554_562.out
  have hcz27_0 := cf0 BK562.out
  have hcz27_1 := cf1 BK562.out
  have hfz27_0 := blk_frozen BK562.out 0
  have hfz27_1 := blk_frozen BK562.out 1
  have hcz28_0 := cf0 BK554.out
  have hcz28_1 := cf1 BK554.out
  have hfz28_0 := blk_frozen BK554.out 0
  have hfz28_1 := blk_frozen BK554.out 1
  go_wp2_with (first | (go_at_call 7; (with_reducible refine (laws_lpSame.calls k _ _ t555 _ _ t558 _ _ t547 _ _ t550 false _ ?side1 ?side2 ?side3 ?side4 ?side5 ?side6 ?side7 ?side8 A20.out).mono ?_); (case side1 => refine (Kd.R_reads' (e := 3) (base := w.heap.size) (ok := fun k_ => ((some k_ ≠ (.slice Ao18 t558.length co18 : Value).ownBlock ∧ some k_ ≠ (.slice Ao10 t547.length co10 : Value).ownBlock) ∧ some k_ ≠ (.slice Ao12 t550.length co12 : Value).ownBlock)) (n := t555.length) (c := co15) ?_).2.2; exact (ru (Kd.R_mono (Kd.R_far (p := ⟨gb562, 1, none⟩) (Kd.R_far (p := ⟨gb562, 0, none⟩) (Kd.R_types HO557.out BK562.out (by decide)) (fun _ hk => hk.2) (.slice Ao15 t555.length co15)) (fun _ hk => hk.2) (.slice Ao18 t558.length co18)) (fun _ h_ => h_.1)))); (case side2 => exact (Kd.R_reads' HO557.out).2.1); (case side3 => refine (Kd.R_reads' (e := 3) (base := w.heap.size) (ok := fun k_ => ((some k_ ≠ (.slice Ao15 t555.length co15 : Value).ownBlock ∧ some k_ ≠ (.slice Ao10 t547.length co10 : Value).ownBlock) ∧ some k_ ≠ (.slice Ao12 t550.length co12 : Value).ownBlock)) (n := t558.length) (c := co18) ?_).2.2; exact (ru (Kd.R_mono (Kd.R_far (p := ⟨gb562, 1, none⟩) (Kd.R_far (p := ⟨gb562, 0, none⟩) (Kd.R_types HO560.out BK562.out (by decide)) (fun _ hk => hk.2) (.slice Ao15 t555.length co15)) (fun _ hk => hk.2) (.slice Ao18 t558.length co18)) (fun _ h_ => h_.1)))); (case side4 => exact (Kd.R_reads' HO560.out).2.1); (case side5 => refine (Kd.R_reads' (e := 3) (base := w.heap.size) (ok := fun k_ => ((some k_ ≠ (.slice Ao12 t550.length co12 : Value).ownBlock ∧ some k_ ≠ (.slice Ao15 t555.length co15 : Value).ownBlock) ∧ some k_ ≠ (.slice Ao18 t558.length co18 : Value).ownBlock)) (n := t547.length) (c := co10) ?_).2.2; exact (ru (Kd.R_mono (Kd.R_far (p := ⟨gb562, 1, none⟩) (Kd.R_far (p := ⟨gb562, 0, none⟩) (Kd.R_types HO549.out BK562.out (by decide)) (fun _ hk => hk.2) (.slice Ao15 t555.length co15)) (fun _ hk => hk.2) (.slice Ao18 t558.length co18)) (fun _ h_ => h_.1)))); (case side6 => exact (Kd.R_reads' HO549.out).2.1); (case side7 => refine (Kd.R_reads' (e := 3) (base := w.heap.size) (ok := fun k_ => ((some k_ ≠ (.slice Ao10 t547.length co10 : Value).ownBlock ∧ some k_ ≠ (.slice Ao15 t555.length co15 : Value).ownBlock) ∧ some k_ ≠ (.slice Ao18 t558.length co18 : Value).ownBlock)) (n := t550.length) (c := co12) ?_).2.2; exact (ru (Kd.R_mono (Kd.R_far (p := ⟨gb562, 1, none⟩) (Kd.R_far (p := ⟨gb562, 0, none⟩) (Kd.R_types HO552.out BK562.out (by decide)) (fun _ hk => hk.2) (.slice Ao15 t555.length co15)) (fun _ hk => hk.2) (.slice Ao18 t558.length co18)) (fun _ h_ => h_.1)))); (case side8 => exact (Kd.R_reads' HO552.out).2.1); rintro e w29 ⟨rfl, hb⟩; replace HO549 := am_ (Kd.R_below (ru (Kd.R_mono (Kd.R_far (p := ⟨gb562, 1, none⟩) (Kd.R_far (p := ⟨gb562, 0, none⟩) (Kd.R_types HO549.out BK562.out (by decide)) (fun _ hk => hk.2) (.slice Ao15 t555.length co15)) (fun _ hk => hk.2) (.slice Ao18 t558.length co18)) (fun _ h_ => h_.1))) hb); replace HO552 := am_ (Kd.R_below (ru (Kd.R_mono (Kd.R_far (p := ⟨gb562, 1, none⟩) (Kd.R_far (p := ⟨gb562, 0, none⟩) (Kd.R_types HO552.out BK562.out (by decide)) (fun _ hk => hk.2) (.slice Ao15 t555.length co15)) (fun _ hk => hk.2) (.slice Ao18 t558.length co18)) (fun _ h_ => h_.1))) hb); replace HO557 := am_ (Kd.R_below (ru (Kd.R_mono (Kd.R_far (p := ⟨gb562, 1, none⟩) (Kd.R_far (p := ⟨gb562, 0, none⟩) (Kd.R_types HO557.out BK562.out (by decide)) (fun _ hk => hk.2) (.slice Ao15 t555.length co15)) (fun _ hk => hk.2) (.slice Ao18 t558.length co18)) (fun _ h_ => h_.1))) hb); replace HO560 := am_ (Kd.R_below (ru (Kd.R_mono (Kd.R_far (p := ⟨gb562, 1, none⟩) (Kd.R_far (p := ⟨gb562, 0, none⟩) (Kd.R_types HO560.out BK562.out (by decide)) (fun _ hk => hk.2) (.slice Ao15 t555.length co15)) (fun _ hk => hk.2) (.slice Ao18 t558.length co18)) (fun _ h_ => h_.1))) hb); replace BK554 := am_ (blk_below (g := gb554) (o := .cells #[.slice Ao10 t547.length co10, .slice Ao12 t550.length co12] 26 (0, 0)) z3_13 hb); replace BK562 := am_ (blk_below (g := gb562) (o := .cells #[.slice Ao15 t555.length co15, .slice Ao18 t558.length co18] 26 (0, 0)) z3_17 hb); replace HB := am_ (below_step z3_9 hb); (try clear hb); (try clear hb2); (try clear hk); (try clear hi)))
  go_meet
  case rel => exact ⟨_, (true), z3_1, H', ⟨by first | omega | exact Nat.le_refl _⟩, ⟨ru (Kd.R_mono HO549.out (fun _ hk => ⟨hk.1.1, ⟨hk.1.2, hk.2⟩⟩))⟩, ⟨ru (Kd.R_mono HO552.out (fun _ hk => ⟨hk.1.1, ⟨hk.1.2, hk.2⟩⟩))⟩, ⟨ru (Kd.R_mono HO557.out (fun _ hk => ⟨hk.1.2, ⟨hk.2, hk.1.1⟩⟩))⟩, ⟨ru (Kd.R_mono HO560.out (fun _ hk => ⟨hk.1.2, ⟨hk.2, hk.1.1⟩⟩))⟩, ⟨bu BK554.out⟩, ⟨bu BK562.out⟩, ⟨z3_9⟩⟩
 case rest =>
  clear HC6
  obtain ⟨kq, x41_5, rfl, HA, HJ5, HO_02, HO_03, HO_00, HO_01, BK554, BK562, HB⟩ := hcut
  cases kq with
  | zero => exact absurd HA.out (by simp [laws_FnShapeOdd.j0])
  | succ kj5 =>
   have H := HA.out
   clear HA
   simp only [laws_FnShapeOdd.j0] at H
   by_cases c30 : x41_5 = true
   ·subst c30
    have H1 : (if (t561 == t553) = true then ((laws_lpSame.f kj5 t555 t558 t547 t550).bind fun t564 => (some t564)) else (some false)) = some r := by rw [if_pos rfl] at H; exact H
    clear H
    have H := H1
    clear H1
    by_cases c31 : (t561 == t553) = true
    ·rw [if_pos c31] at H
     have c31b0 : (t561 == t553) = true := c31
     (try (have c31b1 : decide (t561 = t553) = true := by simpa using c31))
     (try (have c31b2 : (t561 == t553) = true := by simpa using c31))
     clear c31
     replace H := Option.bind_eq_some_iff.mp H
     obtain ⟨t564, A320, H⟩ := H
     replace H : (some t564) = some r := H
     have A32 := am_ A320
     clear A320
     obtain rfl := Option.some.inj H
     have hnb33 := NB562_554.out
     have hnc33 := NB554_562.out
     have hcz34_0 := cf0 BK562.out
     have hcz34_1 := cf1 BK562.out
     have hfz34_0 := blk_frozen BK562.out 0
     have hfz34_1 := blk_frozen BK562.out 1
     have hcz35_0 := cf0 BK554.out
     have hcz35_1 := cf1 BK554.out
     have hfz35_0 := blk_frozen BK554.out 0
     have hfz35_1 := blk_frozen BK554.out 1
     go_wp2_with (first | (go_at_call 7; (with_reducible refine (laws_lpSame.calls kj5 _ _ t555 _ _ t558 _ _ t547 _ _ t550 t564 _ ?side1 ?side2 ?side3 ?side4 ?side5 ?side6 ?side7 ?side8 A32.out).mono ?_); (case side1 => repeat (first | exact (Kd.R_reads' HO_00.out).2.2 | (with_reducible refine Kd.C_alloc ?_ _) | (with_reducible refine Kd.C_drewN ?_ _) | (with_reducible refine Kd.C_drew ?_))); (case side2 => exact (Kd.R_reads' HO_00.out).2.1); (case side3 => repeat (first | exact (Kd.R_reads' HO_01.out).2.2 | (with_reducible refine Kd.C_alloc ?_ _) | (with_reducible refine Kd.C_drewN ?_ _) | (with_reducible refine Kd.C_drew ?_))); (case side4 => exact (Kd.R_reads' HO_01.out).2.1); (case side5 => repeat (first | exact (Kd.R_reads' HO_02.out).2.2 | (with_reducible refine Kd.C_alloc ?_ _) | (with_reducible refine Kd.C_drewN ?_ _) | (with_reducible refine Kd.C_drew ?_))); (case side6 => exact (Kd.R_reads' HO_02.out).2.1); (case side7 => repeat (first | exact (Kd.R_reads' HO_03.out).2.2 | (with_reducible refine Kd.C_alloc ?_ _) | (with_reducible refine Kd.C_drewN ?_ _) | (with_reducible refine Kd.C_drew ?_))); (case side8 => exact (Kd.R_reads' HO_03.out).2.1); rintro e w36 ⟨rfl, hb⟩; replace HO_02 := am_ (Kd.R_below (ru HO_02.out) hb); replace HO_03 := am_ (Kd.R_below (ru HO_03.out) hb); replace HO_00 := am_ (Kd.R_below (ru HO_00.out) hb); replace HO_01 := am_ (Kd.R_below (ru HO_01.out) hb); replace BK554 := am_ (blk_below (bu BK554.out) hb); replace BK562 := am_ (blk_below (bu BK562.out) hb); replace HB := am_ (below_step z3_9 hb); (try clear hb); (try clear hb2); (try clear hk); (try clear hi)))
     go_ret
     exact ⟨z3_3, z3_9⟩
    rw [if_neg c31] at H
    have c31b0 : (t561 == t553) = false := by simpa using c31
    (try (have c31b1 : decide (t561 = t553) = false := by simpa using c31))
    (try (have c31b2 : (t561 == t553) = false := by simpa using c31))
    (try (have c31b3 : ¬ (t561 = t553) := by simpa using c31))
    clear c31
    obtain rfl := Option.some.inj H
    go_wp2
    go_ret
    exact ⟨z3_3, z3_9⟩
   replace c30 := Bool.eq_false_iff.mpr c30
   subst c30
   have H1 : ((impl_ShapeOf.f t546 0).bind fun bt565 => ((impl_ExecAll.f kj5 bt565.1).bind fun t570 => (laws_FnShapeOdd.l0 kj5 bt565.2 t570 0 t555 t558 bt565.1))) = some r := by rw [if_neg (show ¬ (false = true) by decide)] at H; exact H
   clear H
   have H := H1
   clear H1
   replace H := Option.bind_eq_some_iff.mp H
   obtain ⟨⟨t565, t568⟩, A370, H⟩ := H
   replace H : ((impl_ExecAll.f kj5 t565).bind fun t570 => (laws_FnShapeOdd.l0 kj5 t568 t570 0 t555 t558 t565)) = some r := H
   have A37 := am_ A370
   clear A370
   replace H := Option.bind_eq_some_iff.mp H
   obtain ⟨t570, A380, H⟩ := H
   replace H : (laws_FnShapeOdd.l0 kj5 t568 t570 0 t555 t558 t565) = some r := H
   have A38 := am_ A380
   clear A380
   have H' := am_ H
   clear H
   go_wp2_with (first | ((with_reducible refine gate_callee (f := 8) rfl ?_); refine goesL_ (some 52) rfl rfl Try.func8 (by kernel_rfl) rfl #[.int .i64 t546, .int .i64 0] rfl (by (try simp only [List.map_toArray, List.map_cons, List.map_nil]); first | done | rfl | (simp only [List.length_drop, List.length_take]; rfl)) ?_; (with_reducible refine (impl_ShapeOf.calls t546 0 t565 t568 _ A37.out).mono ?_); rintro e w39 ⟨v566, rfl, ho0, hb⟩; refine ⟨_, rfl, ?_⟩; have n0_ := am_ (Kd.R_below (ru HO_02.out) hb); have n1_ := am_ (Kd.R_below (ru HO_03.out) hb); have n2_ := am_ (Kd.R_below (ru HO_00.out) hb); have n3_ := am_ (Kd.R_below (ru HO_01.out) hb); have n4_ := am_ (Kd.N_lower (Kd.N_mono (ok' := fun k_ => some k_ ≠ (.slice Ao10 t547.length co10 : Value).ownBlock ∧ some k_ ≠ (.slice Ao12 t550.length co12 : Value).ownBlock ∧ some k_ ≠ (.slice Ao15 t555.length co15 : Value).ownBlock ∧ some k_ ≠ (.slice Ao18 t558.length co18 : Value).ownBlock ∧ k_ ≠ gb554 ∧ k_ ≠ gb562) ho0 (fun k_ hk_ => ⟨(Kd.fresh' (Kd.R_lt (ru HO_02.out)) k_ hk_), (Kd.fresh' (Kd.R_lt (ru HO_03.out)) k_ hk_), (Kd.fresh' (Kd.R_lt (ru HO_00.out)) k_ hk_), (Kd.fresh' (Kd.R_lt (ru HO_01.out)) k_ hk_), (Kd.freshB (bu BK554.out) k_ hk_), (Kd.freshB (bu BK562.out) k_ hk_)⟩)) (below_size z3_9)); have n5_ := am_ (blk_below (bu BK554.out) hb); have n6_ := am_ (blk_below (bu BK562.out) hb); have n7_ := am_ (below_step z3_9 hb); clear HO_02 HO_03 HO_00 HO_01 BK554 BK562 HB; have HO_02 := n0_; have HO_03 := n1_; have HO_00 := n2_; have HO_01 := n3_; have HO567 := n4_; have BK554 := n5_; have BK562 := n6_; have HB := n7_; clear n0_ n1_ n2_ n3_ n4_ n5_ n6_ n7_; (try clear hb); (try clear hb2); (try clear hk); (try clear hi); (try clear ho0)) | ((with_reducible refine gate_dst (N := 8) rfl ?_); refine box_event ?hg (N := 8) ?hd (cs := #[.slice none 0 0]) (t := 32) ?hr ?_; (case hd => rfl); (case hg => rfl); (case hr => first | (go_simp; done) | (go_simp; rfl)); intro gb569 hg w40 hbox hb; have n0_ := am_ (Kd.R_below (ru HO_02.out) hb); have n1_ := am_ (Kd.R_below (ru HO_03.out) hb); have n2_ := am_ (Kd.R_below (ru HO_00.out) hb); have n3_ := am_ (Kd.R_below (ru HO_01.out) hb); have n4_ := am_ (Kd.N_below (Kd.N_elderB (nu HO567.out) gb569 (Nat.le_of_eq hg.symm)) hb); have n5_ := am_ (blk_below (bu BK554.out) hb); have n6_ := am_ (blk_below (bu BK562.out) hb); have n7_ := am_ (below_step z3_9 hb); have n8_ := am_ (hbox); have n9_ := am_ (by rw [hg]; exact (below_size z3_9) : w.heap.size ≤ gb569); have n10_ := am_ (by rw [hg]; exact (below_size z3_9) : w.heap.size ≤ gb569); have n11_ := am_ (by rw [hg]; exact Nat.ne_of_lt (blk_lt (bu BK554.out)) : gb554 ≠ gb569); have n12_ := am_ (by rw [hg]; exact Nat.ne_of_gt (blk_lt (bu BK554.out)) : gb569 ≠ gb554); have n13_ := am_ (by rw [hg]; exact Nat.ne_of_lt (blk_lt (bu BK562.out)) : gb562 ≠ gb569); have n14_ := am_ (by rw [hg]; exact Nat.ne_of_gt (blk_lt (bu BK562.out)) : gb569 ≠ gb562); clear HO_02 HO_03 HO_00 HO_01 HO567 BK554 BK562 HB; have HO_02 := n0_; have HO_03 := n1_; have HO_00 := n2_; have HO_01 := n3_; have HO567 := n4_; have BK554 := n5_; have BK562 := n6_; have HB := n7_; have BK569 := n8_; have GW569 := n9_; have GE569 := n10_; have NB554_569 := n11_; have NB569_554 := n12_; have NB562_569 := n13_; have NB569_562 := n14_; clear n0_ n1_ n2_ n3_ n4_ n5_ n6_ n7_ n8_ n9_ n10_ n11_ n12_ n13_ n14_; clear hb hbox hg; obtain ⟨Ao41, co41, eo41⟩ := Kd.N_slice HO567.out; subst eo41; have hnb42 := NB569_554.out; have hnc42 := NB554_569.out; have hnb43 := NB569_562.out; have hnc43 := NB562_569.out; have hcz44_0 := cf0 BK569.out; have hfz44_0 := blk_frozen BK569.out 0) | ((with_reducible refine gate_store (t := 32) (p := 8) rfl ?_); refine store_event (t := 32) (p := 8) (v := ?vo_w45) (w1 := (w40.setCell ⟨gb569, 0, none⟩ (.slice Ao41 t565.length co41))) ?hg ?ho ?hn ?hr ?_; (case ho => rfl); (case hg => rfl); (case hn => rfl); (case hr => first | (go_simp; done) | (go_simp; rfl)); intro w45 hw; replace HO_02 : Aside0 (Kd.R (Kd.int .i64) 3 w45 w.heap.size (fun k_ => some k_ ≠ (.slice Ao12 t550.length co12 : Value).ownBlock ∧ some k_ ≠ (.slice Ao15 t555.length co15 : Value).ownBlock ∧ some k_ ≠ (.slice Ao18 t558.length co18 : Value).ownBlock) (.slice Ao10 t547.length co10) t547) := ⟨(by rw [hw]; exact (ru (Kd.R_mono (Kd.R_far (p := ⟨gb569, 0, none⟩) (Kd.R_types HO_02.out BK569.out (by decide)) (fun _ hk => hk.2) (.slice Ao41 t565.length co41)) (fun _ hk => ⟨hk.1.1, ⟨hk.1.2.1, hk.1.2.2⟩⟩))))⟩; replace HO_03 : Aside0 (Kd.R (Kd.int .i64) 3 w45 w.heap.size (fun k_ => some k_ ≠ (.slice Ao10 t547.length co10 : Value).ownBlock ∧ some k_ ≠ (.slice Ao15 t555.length co15 : Value).ownBlock ∧ some k_ ≠ (.slice Ao18 t558.length co18 : Value).ownBlock) (.slice Ao12 t550.length co12) t550) := ⟨(by rw [hw]; exact (ru (Kd.R_mono (Kd.R_far (p := ⟨gb569, 0, none⟩) (Kd.R_types HO_03.out BK569.out (by decide)) (fun _ hk => hk.2) (.slice Ao41 t565.length co41)) (fun _ hk => ⟨hk.1.1, ⟨hk.1.2.1, hk.1.2.2⟩⟩))))⟩; replace HO_00 : Aside0 (Kd.R (Kd.int .i64) 3 w45 w.heap.size (fun k_ => some k_ ≠ (.slice Ao10 t547.length co10 : Value).ownBlock ∧ some k_ ≠ (.slice Ao12 t550.length co12 : Value).ownBlock ∧ some k_ ≠ (.slice Ao18 t558.length co18 : Value).ownBlock) (.slice Ao15 t555.length co15) t555) := ⟨(by rw [hw]; exact (ru (Kd.R_mono (Kd.R_far (p := ⟨gb569, 0, none⟩) (Kd.R_types HO_00.out BK569.out (by decide)) (fun _ hk => hk.2) (.slice Ao41 t565.length co41)) (fun _ hk => ⟨hk.1.1, ⟨hk.1.2.1, hk.1.2.2⟩⟩))))⟩; replace HO_01 : Aside0 (Kd.R (Kd.int .i64) 3 w45 w.heap.size (fun k_ => some k_ ≠ (.slice Ao10 t547.length co10 : Value).ownBlock ∧ some k_ ≠ (.slice Ao12 t550.length co12 : Value).ownBlock ∧ some k_ ≠ (.slice Ao15 t555.length co15 : Value).ownBlock) (.slice Ao18 t558.length co18) t558) := ⟨(by rw [hw]; exact (ru (Kd.R_mono (Kd.R_far (p := ⟨gb569, 0, none⟩) (Kd.R_types HO_01.out BK569.out (by decide)) (fun _ hk => hk.2) (.slice Ao41 t565.length co41)) (fun _ hk => ⟨hk.1.1, ⟨hk.1.2.1, hk.1.2.2⟩⟩))))⟩; replace HO567 : Aside0 (Kd.N (Kd.slice 70 k70) 55 w45 w.heap.size (fun k_ => some k_ ≠ (.slice Ao10 t547.length co10 : Value).ownBlock ∧ some k_ ≠ (.slice Ao12 t550.length co12 : Value).ownBlock ∧ some k_ ≠ (.slice Ao15 t555.length co15 : Value).ownBlock ∧ some k_ ≠ (.slice Ao18 t558.length co18 : Value).ownBlock ∧ k_ ≠ gb554 ∧ k_ ≠ gb562 ∧ k_ ≠ gb569) (.slice Ao41 t565.length co41) t565) := ⟨(by rw [hw]; exact (nu (Kd.N_mono (Kd.N_far (p := ⟨gb569, 0, none⟩) (Kd.N_mono HO567.out (fun k_ hk => (⟨hk, hk.2⟩ : _ ∧ k_ ≠ gb569))) (fun _ hk => hk.2) (.slice Ao41 t565.length co41)) (fun _ hk => ⟨hk.1.1.1, ⟨hk.1.1.2.1, ⟨hk.1.1.2.2.1, ⟨hk.1.1.2.2.2.1, ⟨hk.1.1.2.2.2.2.1, ⟨hk.1.1.2.2.2.2.2, hk.1.2⟩⟩⟩⟩⟩⟩))))⟩; replace BK554 : Aside0 (w45.heap[gb554]? = some (.cells #[.slice Ao10 t547.length co10, .slice Ao12 t550.length co12] 26 (0, 0))) := ⟨(by rw [hw]; exact (by (with_reducible repeat (first | refine blk_drewN ?_ _ | refine blk_drew ?_ | refine blk_alloc ?_ _)); refine blk_far ?_ NB554_569.out _; (with_reducible repeat (first | refine blk_drewN ?_ _ | refine blk_drew ?_ | refine blk_alloc ?_ _)); exact BK554.out))⟩; replace BK562 : Aside0 (w45.heap[gb562]? = some (.cells #[.slice Ao15 t555.length co15, .slice Ao18 t558.length co18] 26 (0, 0))) := ⟨(by rw [hw]; exact (by (with_reducible repeat (first | refine blk_drewN ?_ _ | refine blk_drew ?_ | refine blk_alloc ?_ _)); refine blk_far ?_ NB562_569.out _; (with_reducible repeat (first | refine blk_drewN ?_ _ | refine blk_drew ?_ | refine blk_alloc ?_ _)); exact BK562.out))⟩; replace BK569 : Aside0 (w45.heap[gb569]? = some (.cells #[.slice Ao41 t565.length co41] 32 (0, 0))) := ⟨(by rw [hw]; exact (by (with_reducible repeat (first | refine blk_drewN ?_ _ | refine blk_drew ?_ | refine blk_alloc ?_ _)); refine blk_put (cs := #[.slice none 0 0]) ?_ 0 _ rfl; (with_reducible repeat (first | refine blk_drewN ?_ _ | refine blk_drew ?_ | refine blk_alloc ?_ _)); exact BK569.out))⟩; replace HB : Aside0 (Below w.heap.size w w45) := ⟨(by rw [hw]; exact z3_10)⟩; clear hw; have hcz46_0 := cf0 BK569.out; have hfz46_0 := blk_frozen BK569.out 0) | ((with_reducible refine gate_callee (f := 9) rfl ?_); refine goesL_ (some 56) rfl rfl Try.func9 (by kernel_rfl) rfl #[.agg #[.slice Ao41 t565.length co41]] rfl (by (try simp only [List.map_toArray, List.map_cons, List.map_nil]); first | done | rfl | (simp only [List.length_drop, List.length_take]; rfl)) ?_; (with_reducible refine (impl_ExecAll.calls kj5 (fun k_ => (some k_ ≠ (.slice Ao10 t547.length co10 : Value).ownBlock ∧ (some k_ ≠ (.slice Ao12 t550.length co12 : Value).ownBlock ∧ (some k_ ≠ (.slice Ao15 t555.length co15 : Value).ownBlock ∧ (some k_ ≠ (.slice Ao18 t558.length co18 : Value).ownBlock ∧ (k_ ≠ gb554 ∧ (k_ ≠ gb562 ∧ k_ ≠ gb569))))))) _ _ t565 t570 _ ?side1 A38.out).mono ?_); (case side1 => exact Kd.N_V (HO567.out)); rintro e w47 ⟨v571, rfl, ho0, hb⟩; refine ⟨_, rfl, ?_⟩; have n0_ := am_ (Kd.R_below (ru HO_02.out) hb); have n1_ := am_ (Kd.R_below (ru HO_03.out) hb); have n2_ := am_ (Kd.R_below (ru HO_00.out) hb); have n3_ := am_ (Kd.R_below (ru HO_01.out) hb); have n4_ := am_ (Kd.N_elder' (nu HO567.out) (by first | exact Kd.N_base ho0 | exact Kd.S_base ho0) hb); have n5_ := am_ (Kd.N_lower (Kd.N_mono (ok' := fun k_ => some k_ ≠ (.slice Ao10 t547.length co10 : Value).ownBlock ∧ some k_ ≠ (.slice Ao12 t550.length co12 : Value).ownBlock ∧ some k_ ≠ (.slice Ao15 t555.length co15 : Value).ownBlock ∧ some k_ ≠ (.slice Ao18 t558.length co18 : Value).ownBlock ∧ k_ ≠ gb554 ∧ k_ ≠ gb562 ∧ k_ ≠ gb569) ho0 (fun k_ hk_ => ⟨Or.elim hk_ (fun hs_ => hs_.1) (fun hn_ => (Kd.fresh' (Kd.R_lt (ru HO_02.out)) k_ hn_)), Or.elim hk_ (fun hs_ => hs_.2.1) (fun hn_ => (Kd.fresh' (Kd.R_lt (ru HO_03.out)) k_ hn_)), Or.elim hk_ (fun hs_ => hs_.2.2.1) (fun hn_ => (Kd.fresh' (Kd.R_lt (ru HO_00.out)) k_ hn_)), Or.elim hk_ (fun hs_ => hs_.2.2.2.1) (fun hn_ => (Kd.fresh' (Kd.R_lt (ru HO_01.out)) k_ hn_)), Or.elim hk_ (fun hs_ => hs_.2.2.2.2.1) (fun hn_ => (Kd.freshB (bu BK554.out) k_ hn_)), Or.elim hk_ (fun hs_ => hs_.2.2.2.2.2.1) (fun hn_ => (Kd.freshB (bu BK562.out) k_ hn_)), Or.elim hk_ (fun hs_ => hs_.2.2.2.2.2.2) (fun hn_ => (Kd.freshB (bu BK569.out) k_ hn_))⟩)) (below_size z3_10)); have n6_ := am_ (blk_below (bu BK554.out) hb); have n7_ := am_ (blk_below (bu BK562.out) hb); have n8_ := am_ (blk_below (bu BK569.out) hb); have n9_ := am_ (below_step z3_10 hb); clear HO_02 HO_03 HO_00 HO_01 HO567 BK554 BK562 BK569 HB; have HO_02 := n0_; have HO_03 := n1_; have HO_00 := n2_; have HO_01 := n3_; have HO567 := n4_; have HO572 := n5_; have BK554 := n6_; have BK562 := n7_; have BK569 := n8_; have HB := n9_; clear n0_ n1_ n2_ n3_ n4_ n5_ n6_ n7_ n8_ n9_; (try clear hb); (try clear hb2); (try clear hk); (try clear hi); (try clear ho0)))
   go_loopg [11] kj5 (fun kq v11 w' => ∃ (x11_2 : Int), v11 = .int .i64 x11_2 ∧ Aside0 (laws_FnShapeOdd.l0 kq t568 t570 x11_2 t555 t558 t565 = some r) ∧ Aside0 (kq ≤ kj5) ∧ Aside0 (Kd.N k40 40 w' w.heap.size (fun k_ => some k_ ≠ ((.slice Ao10 t547.length co10) : Value).ownBlock ∧ some k_ ≠ ((.slice Ao12 t550.length co12) : Value).ownBlock ∧ some k_ ≠ ((.slice Ao15 t555.length co15) : Value).ownBlock ∧ some k_ ≠ ((.slice Ao18 t558.length co18) : Value).ownBlock ∧ k_ ≠ gb554 ∧ k_ ≠ gb562 ∧ k_ ≠ gb569) v571 t570) ∧ Aside0 (Kd.R (Kd.int .i64) 3 w' w.heap.size (fun k_ => some k_ ≠ ((.slice Ao12 t550.length co12) : Value).ownBlock ∧ some k_ ≠ ((.slice Ao15 t555.length co15) : Value).ownBlock ∧ some k_ ≠ ((.slice Ao18 t558.length co18) : Value).ownBlock) (.slice Ao10 t547.length co10) t547) ∧ Aside0 (Kd.R (Kd.int .i64) 3 w' w.heap.size (fun k_ => some k_ ≠ ((.slice Ao10 t547.length co10) : Value).ownBlock ∧ some k_ ≠ ((.slice Ao15 t555.length co15) : Value).ownBlock ∧ some k_ ≠ ((.slice Ao18 t558.length co18) : Value).ownBlock) (.slice Ao12 t550.length co12) t550) ∧ Aside0 (Kd.R (Kd.int .i64) 3 w' w.heap.size (fun k_ => some k_ ≠ ((.slice Ao10 t547.length co10) : Value).ownBlock ∧ some k_ ≠ ((.slice Ao12 t550.length co12) : Value).ownBlock ∧ some k_ ≠ ((.slice Ao18 t558.length co18) : Value).ownBlock) (.slice Ao15 t555.length co15) t555) ∧ Aside0 (Kd.R (Kd.int .i64) 3 w' w.heap.size (fun k_ => some k_ ≠ ((.slice Ao10 t547.length co10) : Value).ownBlock ∧ some k_ ≠ ((.slice Ao12 t550.length co12) : Value).ownBlock ∧ some k_ ≠ ((.slice Ao15 t555.length co15) : Value).ownBlock) (.slice Ao18 t558.length co18) t558) ∧ Aside0 (Kd.N (Kd.slice 70 k70) 55 w' w.heap.size (fun k_ => some k_ ≠ (v571 : Value).ownBlock ∧ some k_ ≠ ((.slice Ao10 t547.length co10) : Value).ownBlock ∧ some k_ ≠ ((.slice Ao12 t550.length co12) : Value).ownBlock ∧ some k_ ≠ ((.slice Ao15 t555.length co15) : Value).ownBlock ∧ some k_ ≠ ((.slice Ao18 t558.length co18) : Value).ownBlock ∧ k_ ≠ gb554 ∧ k_ ≠ gb562 ∧ k_ ≠ gb569) (.slice Ao41 t565.length co41) t565) ∧ Aside0 (w'.heap[gb554]? = some (.cells #[(.slice Ao10 t547.length co10), (.slice Ao12 t550.length co12)] 26 (0, 0))) ∧ Aside0 (w'.heap[gb562]? = some (.cells #[(.slice Ao15 t555.length co15), (.slice Ao18 t558.length co18)] 26 (0, 0))) ∧ Aside0 (w'.heap[gb569]? = some (.cells #[(.slice Ao41 t565.length co41)] 32 (0, 0))) ∧ Aside0 (Below w.heap.size w w'))
   case atStart => exact ⟨(0), z3_1, H', ⟨Nat.le_refl _⟩, ⟨nu HO572.out⟩, ⟨ru HO_02.out⟩, ⟨ru HO_03.out⟩, ⟨ru HO_00.out⟩, ⟨ru HO_01.out⟩, ⟨nu (Kd.N_mono HO567.out (fun _ hk => ⟨hk.2, ⟨hk.1.1, ⟨hk.1.2.1, ⟨hk.1.2.2.1, ⟨hk.1.2.2.2.1, ⟨hk.1.2.2.2.2.1, ⟨hk.1.2.2.2.2.2.1, hk.1.2.2.2.2.2.2⟩⟩⟩⟩⟩⟩⟩))⟩, ⟨bu BK554.out⟩, ⟨bu BK562.out⟩, ⟨bu BK569.out⟩, ⟨z3_10⟩⟩
   case round =>
    clear H'
    obtain ⟨x11_2, rfl, HA, HK2, HO_10, HO_02, HO_03, HO_00, HO_01, HO_04, BK554, BK562, BK569, HB⟩ := hrel
    cases gk with
    | zero => exact absurd HA.out (by simp [laws_FnShapeOdd.l0])
    | succ k2 =>
     have H := HA.out
     clear HA
     simp only [laws_FnShapeOdd.l0] at H
     by_cases c48 : x11_2 < (t570.length : Int)
     ·rw [if_pos c48] at H
      have c48b0 : decide (x11_2 < (t570.length : Int)) = true := decide_eq_true c48
      clear c48
      by_cases c49 : 0 ≤ x11_2
      ·rw [if_pos c49] at H
       have c49b0 : decide (0 ≤ x11_2) = true := decide_eq_true c49
       clear c49
       replace H := Option.bind_eq_some_iff.mp H
       obtain ⟨⟨t574, t577, t580⟩, A500, H⟩ := H
       replace H : ((laws_lpSame.f k2 t574 t577 t555 t558).bind fun t582 => (if t582 = true then (if t568 = true then ((impl_SeenOk.f k2 t565 t555 t558).bind fun t583 => (some t583)) else (some false)) else (laws_FnShapeOdd.l0 k2 t568 t570 (wrap64 (x11_2 + 1)) t555 t558 t565))) = some r := H
       have A50 := am_ A500
       clear A500
       replace H := Option.bind_eq_some_iff.mp H
       obtain ⟨t582, A510, H⟩ := H
       replace H : (if t582 = true then (if t568 = true then ((impl_SeenOk.f k2 t565 t555 t558).bind fun t583 => (some t583)) else (some false)) else (laws_FnShapeOdd.l0 k2 t568 t570 (wrap64 (x11_2 + 1)) t555 t558 t565)) = some r := H
       have A51 := am_ A510
       clear A510
       by_cases c52 : t582 = true
       ·subst c52
        have H1 : (if t568 = true then ((impl_SeenOk.f k2 t565 t555 t558).bind fun t583 => (some t583)) else (some false)) = some r := by rw [if_pos rfl] at H; exact H
        clear H
        have H := H1
        clear H1
        by_cases c53 : t568 = true
        ·subst c53
         have H1 : ((impl_SeenOk.f k2 t565 t555 t558).bind fun t583 => (some t583)) = some r := by rw [if_pos rfl] at H; exact H
         clear H
         have H := H1
         clear H1
         replace H := Option.bind_eq_some_iff.mp H
         obtain ⟨t583, A540, H⟩ := H
         replace H : (some t583) = some r := H
         have A54 := am_ A540
         clear A540
         obtain rfl := Option.some.inj H
         obtain ⟨Ao55, co55, eo55⟩ := Kd.N_slice HO_10.out
         subst eo55
         try go_wp2
         replace HO_10 := am_ (Kd.N_drew HO_10.out)
         replace HO_02 := am_ (Kd.R_drew HO_02.out)
         replace HO_03 := am_ (Kd.R_drew HO_03.out)
         replace HO_00 := am_ (Kd.R_drew HO_00.out)
         replace HO_01 := am_ (Kd.R_drew HO_01.out)
         replace HO_04 := am_ (Kd.N_drew HO_04.out)
         replace BK554 := am_ (blk_drew BK554.out)
         replace BK562 := am_ (blk_drew BK562.out)
         replace BK569 := am_ (blk_drew BK569.out)
         replace HB := am_ (below_drew1 HB.out)
         have p573 : 0 ≤ (x11_2 : Int) := of_decide_eq_true z3_2
         have q573 : x11_2 < (t570.length : Int) := of_decide_eq_true z3_2
         obtain ⟨ad573, A573_0, c573_0, A573_1, c573_1, e573, hx573_0, hx573_1, hl573_0, hi573_0, hl573_1, hi573_1⟩ := at_T40 (Kd.N_reads' HO_10.out).2.2 x11_2 p573 q573
         cases e573
         obtain ⟨ce573, hce573, hMe573, hcc573⟩ := Kd.N_get HO_10.out z40 x11_2 p573 z3_18
         obtain ⟨ua573_0, uc573_0, ua573_1, uc573_1, rfl, ul573_0, ge573_0, ul573_1, ge573_1⟩ := k40_openF hMe573
         have hv573_0 := hcc573 0 _ rfl
         rw [Nat.add_zero] at hv573_0
         replace hv573_0 := Option.some.inj (hv573_0.symm.trans hx573_0)
         injection hv573_0 with hva_ hvn_ hvc_
         rw [hva_] at ge573_0
         rw [hvc_] at ul573_0
         have HL573_0 := am_ (show Kd.V (Kd.int .i64) 3 _ w.heap.size _ _ ((rd_T40 t570 x11_2).f0) from Kd.V_mk ul573_0 ge573_0)
         clear hva_ hvn_ hvc_ ge573_0 ul573_0
         have hv573_1 := hcc573 1 _ rfl
         rw [add_field _ _ 1 (by omega)] at hv573_1
         replace hv573_1 := Option.some.inj (hv573_1.symm.trans hx573_1)
         injection hv573_1 with hva_ hvn_ hvc_
         rw [hva_] at ge573_1
         rw [hvc_] at ul573_1
         have HL573_1 := am_ (show Kd.V (Kd.slice 3 (Kd.int .i64)) 24 _ w.heap.size _ _ ((rd_T40 t570 x11_2).f1) from Kd.V_mk ul573_1 ge573_1)
         clear hva_ hvn_ hvc_ ge573_1 ul573_1 hcc573 hce573
         have HR573_0 := am_ hi573_0
         have HC573_0 := am_ hl573_0
         clear hi573_0 hl573_0
         have HR573_1 := am_ hi573_1
         have HC573_1 := am_ hl573_1
         clear hi573_1 hl573_1
         replace p573 := eq_true p573
         replace q573 := eq_true q573
         refine start_ (n := 12) (S := fun w' => w'.cell? ⟨gb569, 0, none⟩ = some (.slice Ao41 t565.length co41) ∧ w'.cell? (ad573.add ((x11_2).toNat * 2)) = some (.slice A573_0 ((rd_T40 t570 x11_2).f0).length c573_0) ∧ w'.cell? ⟨(ad573.add ((x11_2).toNat * 2)).block, (ad573.add ((x11_2).toNat * 2)).off + 1, none⟩ = some (.slice A573_1 ((rd_T40 t570 x11_2).f1).length c573_1)) (ds := []) #[false, false, false, false, false, false, false, false, false, false, false, false] (by kernel_rfl) rfl rfl ⟨(blk_cell BK569.out 0).trans rfl, hx573_0, hx573_1⟩ (fun hHeld => ?_); refine with_tabW laws_FnShapeOdd.tab13 laws_FnShapeOdd.bits13 (fun HT_ HW_ => ?_)
         generalize wr.drew = w56 at HO_10 HO_02 HO_03 HO_00 HO_01 HO_04 BK554 BK562 BK569 HB HL573_0 HL573_1 HR573_0 HR573_1 hx573_0 hx573_1 hHeld ⊢
         refine pure_ (i := 1) (N := some 65) (v := ?_) (a' := ?_) #[false, true, false, false, false, false, false, false, false, false, false, false] rfl rfl (any_of HT_.out (by kernel_rfl)) (fun _ _ _ h => h) (Or.inl ⟨by rfl, ?_⟩) ?_ ?_
         rotate_left
         ·intro w'
          go_simp
          with_reducible rfl
         rotate_left
         ·simp only [Act.put, List.setIfInBounds_toArray, List.set_cons_zero, List.set_cons_succ, i64_w, i32_w]
          rfl
         refine pure_ (i := 2) (N := some 66) (v := ?_) (a' := ?_) #[false, true, true, false, false, false, false, false, false, false, false, false] rfl rfl (any_of HT_.out (by kernel_rfl)) (fun _ _ _ h => h) (Or.inl ⟨by rfl, ?_⟩) ?_ ?_
         rotate_left
         ·intro w'
          go_simp
          with_reducible rfl
         rotate_left
         ·simp only [Act.put, List.setIfInBounds_toArray, List.set_cons_zero, List.set_cons_succ, i64_w, i32_w]
          rfl
         refine pure_ (i := 3) (N := some 67) (v := ?_) (a' := ?_) #[false, true, true, true, false, false, false, false, false, false, false, false] rfl rfl (any_of HT_.out (by kernel_rfl)) (fun _ _ _ h => h) (Or.inl ⟨by rfl, ?_⟩) ?_ ?_
         rotate_left
         ·intro w'
          go_simp
          with_reducible rfl
         rotate_left
         ·simp only [Act.put, List.setIfInBounds_toArray, List.set_cons_zero, List.set_cons_succ, i64_w, i32_w]
          rfl
         refine take_ (i := 0) (N := some 64) (v := ?_) (a' := ?_) #[true, true, true, true, false, false, false, false, false, false, false, false] rfl rfl (take_ofW HT_.out HW_.out (by kernel_rfl)) (fun _ _ _ h => h) (Or.inl ⟨by rfl, ?_⟩) hHeld ?_ ?_
         rotate_left
         ·rintro w' ⟨s0, s1, s2⟩
          go_simp
          with_reducible rfl
         rotate_left
         ·simp only [Act.put, List.setIfInBounds_toArray, List.set_cons_zero, List.set_cons_succ, i64_w, i32_w]
          rfl
         refine take_ (i := 4) (N := some 68) (v := ?_) (a' := ?_) #[true, true, true, true, true, false, false, false, false, false, false, false] rfl rfl (take_ofW HT_.out HW_.out (by kernel_rfl)) (fun _ _ _ h => h) (Or.inl ⟨by rfl, ?_⟩) hHeld ?_ ?_
         rotate_left
         ·rintro w' ⟨s0, s1, s2⟩
          go_simp
          with_reducible rfl
         rotate_left
         ·simp only [Act.put, List.setIfInBounds_toArray, List.set_cons_zero, List.set_cons_succ, i64_w, i32_w]
          rfl
         refine join_ (σ := Value × Value × Nat) 2 #[true, true, true, true, true, true, true, true, true, true, false, false] (fun s_ => [(69, .tuple #[.agg #[s_.1, s_.2.1], .bool t580]), (12, .pointer (some ⟨s_.2.2, 0, none⟩)), (63, .tuple #[.agg #[s_.1, s_.2.1], .bool t580]), (70, .agg #[s_.1, s_.2.1]), (71, .bool t580)]) (fun s_ w' => (w'.cell? ⟨gb569, 0, none⟩ = some (.slice Ao41 t565.length co41) ∧ w'.cell? (ad573.add ((x11_2).toNat * 2)) = some (.slice A573_0 ((rd_T40 t570 x11_2).f0).length c573_0) ∧ w'.cell? ⟨(ad573.add ((x11_2).toNat * 2)).block, (ad573.add ((x11_2).toNat * 2)).off + 1, none⟩ = some (.slice A573_1 ((rd_T40 t570 x11_2).f1).length c573_1)) ∧ (Kd.V (Kd.int .i64) 3 w' w.heap.size (fun k_ => some k_ ≠ (s_.1 : Value).ownBlock ∧ some k_ ≠ (s_.2.1 : Value).ownBlock ∧ some k_ ≠ (.slice (some ad573) t570.length co55 : Value).ownBlock ∧ some k_ ≠ (.slice Ao10 t547.length co10 : Value).ownBlock ∧ some k_ ≠ (.slice Ao12 t550.length co12 : Value).ownBlock ∧ some k_ ≠ (.slice Ao15 t555.length co15 : Value).ownBlock ∧ some k_ ≠ (.slice Ao18 t558.length co18 : Value).ownBlock ∧ k_ ≠ gb554 ∧ k_ ≠ gb562 ∧ k_ ≠ gb569 ∧ k_ ≠ s_.2.2) (.slice A573_0 ((rd_T40 t570 x11_2).f0).length c573_0) ((rd_T40 t570 x11_2).f0)) ∧ (Kd.V (Kd.slice 3 (Kd.int .i64)) 24 w' w.heap.size (fun k_ => some k_ ≠ (s_.1 : Value).ownBlock ∧ some k_ ≠ (s_.2.1 : Value).ownBlock ∧ some k_ ≠ (.slice (some ad573) t570.length co55 : Value).ownBlock ∧ some k_ ≠ (.slice Ao10 t547.length co10 : Value).ownBlock ∧ some k_ ≠ (.slice Ao12 t550.length co12 : Value).ownBlock ∧ some k_ ≠ (.slice Ao15 t555.length co15 : Value).ownBlock ∧ some k_ ≠ (.slice Ao18 t558.length co18 : Value).ownBlock ∧ k_ ≠ gb554 ∧ k_ ≠ gb562 ∧ k_ ≠ gb569 ∧ k_ ≠ s_.2.2) (.slice A573_1 ((rd_T40 t570 x11_2).f1).length c573_1) ((rd_T40 t570 x11_2).f1)) ∧ (Kd.R (Kd.int .i64) 3 w' w.heap.size (fun k_ => some k_ ≠ (s_.2.1 : Value).ownBlock ∧ some k_ ≠ (.slice Ao10 t547.length co10 : Value).ownBlock ∧ some k_ ≠ (.slice Ao12 t550.length co12 : Value).ownBlock ∧ some k_ ≠ (.slice Ao15 t555.length co15 : Value).ownBlock ∧ some k_ ≠ (.slice Ao18 t558.length co18 : Value).ownBlock) s_.1 t574) ∧ (Kd.R (Kd.int .i64) 3 w' w.heap.size (fun k_ => some k_ ≠ (s_.1 : Value).ownBlock ∧ some k_ ≠ (.slice Ao10 t547.length co10 : Value).ownBlock ∧ some k_ ≠ (.slice Ao12 t550.length co12 : Value).ownBlock ∧ some k_ ≠ (.slice Ao15 t555.length co15 : Value).ownBlock ∧ some k_ ≠ (.slice Ao18 t558.length co18 : Value).ownBlock) s_.2.1 t577) ∧ (Kd.N k40 40 w' w.heap.size (fun k_ => some k_ ≠ (s_.1 : Value).ownBlock ∧ some k_ ≠ (s_.2.1 : Value).ownBlock ∧ some k_ ≠ (.slice Ao10 t547.length co10 : Value).ownBlock ∧ some k_ ≠ (.slice Ao12 t550.length co12 : Value).ownBlock ∧ some k_ ≠ (.slice Ao15 t555.length co15 : Value).ownBlock ∧ some k_ ≠ (.slice Ao18 t558.length co18 : Value).ownBlock ∧ k_ ≠ gb554 ∧ k_ ≠ gb562 ∧ k_ ≠ gb569 ∧ k_ ≠ s_.2.2) (.slice (some ad573) t570.length co55) t570) ∧ (Kd.R (Kd.int .i64) 3 w' w.heap.size (fun k_ => some k_ ≠ (s_.1 : Value).ownBlock ∧ some k_ ≠ (s_.2.1 : Value).ownBlock ∧ some k_ ≠ (.slice Ao12 t550.length co12 : Value).ownBlock ∧ some k_ ≠ (.slice Ao15 t555.length co15 : Value).ownBlock ∧ some k_ ≠ (.slice Ao18 t558.length co18 : Value).ownBlock) (.slice Ao10 t547.length co10) t547) ∧ (Kd.R (Kd.int .i64) 3 w' w.heap.size (fun k_ => some k_ ≠ (s_.1 : Value).ownBlock ∧ some k_ ≠ (s_.2.1 : Value).ownBlock ∧ some k_ ≠ (.slice Ao10 t547.length co10 : Value).ownBlock ∧ some k_ ≠ (.slice Ao15 t555.length co15 : Value).ownBlock ∧ some k_ ≠ (.slice Ao18 t558.length co18 : Value).ownBlock) (.slice Ao12 t550.length co12) t550) ∧ (Kd.R (Kd.int .i64) 3 w' w.heap.size (fun k_ => some k_ ≠ (s_.1 : Value).ownBlock ∧ some k_ ≠ (s_.2.1 : Value).ownBlock ∧ some k_ ≠ (.slice Ao10 t547.length co10 : Value).ownBlock ∧ some k_ ≠ (.slice Ao12 t550.length co12 : Value).ownBlock ∧ some k_ ≠ (.slice Ao18 t558.length co18 : Value).ownBlock) (.slice Ao15 t555.length co15) t555) ∧ (Kd.R (Kd.int .i64) 3 w' w.heap.size (fun k_ => some k_ ≠ (s_.1 : Value).ownBlock ∧ some k_ ≠ (s_.2.1 : Value).ownBlock ∧ some k_ ≠ (.slice Ao10 t547.length co10 : Value).ownBlock ∧ some k_ ≠ (.slice Ao12 t550.length co12 : Value).ownBlock ∧ some k_ ≠ (.slice Ao15 t555.length co15 : Value).ownBlock) (.slice Ao18 t558.length co18) t558) ∧ (Kd.N (Kd.slice 70 k70) 55 w' w.heap.size (fun k_ => some k_ ≠ (s_.1 : Value).ownBlock ∧ some k_ ≠ (s_.2.1 : Value).ownBlock ∧ some k_ ≠ (.slice (some ad573) t570.length co55 : Value).ownBlock ∧ some k_ ≠ (.slice Ao10 t547.length co10 : Value).ownBlock ∧ some k_ ≠ (.slice Ao12 t550.length co12 : Value).ownBlock ∧ some k_ ≠ (.slice Ao15 t555.length co15 : Value).ownBlock ∧ some k_ ≠ (.slice Ao18 t558.length co18 : Value).ownBlock ∧ k_ ≠ gb554 ∧ k_ ≠ gb562 ∧ k_ ≠ gb569 ∧ k_ ≠ s_.2.2) (.slice Ao41 t565.length co41) t565) ∧ (w'.heap[gb554]? = some (.cells #[.slice Ao10 t547.length co10, .slice Ao12 t550.length co12] 26 (0, 0))) ∧ (w'.heap[gb562]? = some (.cells #[.slice Ao15 t555.length co15, .slice Ao18 t558.length co18] 26 (0, 0))) ∧ (w'.heap[gb569]? = some (.cells #[.slice Ao41 t565.length co41] 32 (0, 0))) ∧ (w'.heap[s_.2.2]? = some (.cells #[.slice none 0 0, .slice none 0 0] 26 (0, 0))) ∧ (w.heap.size ≤ s_.2.2) ∧ (w.heap.size ≤ s_.2.2) ∧ (gb554 ≠ s_.2.2) ∧ (s_.2.2 ≠ gb554) ∧ (gb562 ≠ s_.2.2) ∧ (s_.2.2 ≠ gb562) ∧ (gb569 ≠ s_.2.2) ∧ (s_.2.2 ≠ gb569) ∧ (Below w.heap.size w w')) ?_ ?_
         rotate_left
         ·intro hCont
          refine two_ (i := 5) (j := 9) (Ni := some 69) (Nj := some 12) #[true, true, true, true, true, true, false, false, false, false, false, false] #[true, true, true, true, true, false, false, false, false, true, false, false] rfl rfl rfl rfl (two_of HT_.out (by kernel_rfl)) (by decide) (by decide) (fun K hK => ?_) (fun K hK => ?_)
          ·skip
           refine goes_ Try.func10 (by kernel_rfl) rfl #[.agg #[.slice Ao41 t565.length co41], .agg #[.slice A573_0 ((rd_T40 t570 x11_2).f0).length c573_0, .slice A573_1 ((rd_T40 t570 x11_2).f1).length c573_1]] (by rfl) rfl rfl (by (try simp only [List.map_toArray, List.map_cons, List.map_nil]); first | done | rfl | (simp only [List.length_drop, List.length_take]; rfl)) ?_
           with_reducible refine (impl_ExecSeen.calls k2 _ _ t565 _ _ ((rd_T40 t570 x11_2).f0) _ _ ((rd_T40 t570 x11_2).f1) t574 t577 t580 _ ?side1 ?side2 ?side3 ?side4 ?side5 ?side6 A50.out).mono ?_
           (case side1 => repeat (first | exact (Kd.N_reads' HO_04.out).2.2 | (with_reducible refine Kd.C_alloc ?_ _) | (with_reducible refine Kd.C_drewN ?_ _) | (with_reducible refine Kd.C_drew ?_)))
           (case side2 => exact (Kd.N_reads' HO_04.out).2.1)
           (case side3 => repeat (first | exact z3_7 | (with_reducible refine Kd.C_alloc ?_ _) | (with_reducible refine Kd.C_drewN ?_ _) | (with_reducible refine Kd.C_drew ?_)))
           (case side4 => exact HC573_0.out)
           (case side5 => repeat (first | exact z3_8 | (with_reducible refine Kd.C_alloc ?_ _) | (with_reducible refine Kd.C_drewN ?_ _) | (with_reducible refine Kd.C_drew ?_)))
           (case side6 => exact HC573_1.out)
           rintro e w57 ⟨v575, v578, rfl, ho0, ho1, hb⟩
           have HS1_ := (hb.cell (World.block_lt_of_cell? _ _ (hHeld.2.1))).trans (hHeld.2.1)
           have HS2_ := (hb.cell (World.block_lt_of_cell? _ _ (hHeld.2.2))).trans (hHeld.2.2)
           refine ⟨_, rfl, ?_⟩
           have n0_ := am_ (Kd.N_mono (Kd.N_told (Kd.N_told (Kd.N_old (nu HO_10.out) hb) (Kd.R_base ho0)) (Kd.R_base ho1)) (fun _ h_ => h_.1))
           have n1_ := am_ (Kd.R_mono (Kd.R_told (Kd.R_told (Kd.R_old (ru HO_02.out) hb) (Kd.R_base ho0)) (Kd.R_base ho1)) (fun _ h_ => h_.1))
           have n2_ := am_ (Kd.R_mono (Kd.R_told (Kd.R_told (Kd.R_old (ru HO_03.out) hb) (Kd.R_base ho0)) (Kd.R_base ho1)) (fun _ h_ => h_.1))
           have n3_ := am_ (Kd.R_mono (Kd.R_told (Kd.R_told (Kd.R_old (ru HO_00.out) hb) (Kd.R_base ho0)) (Kd.R_base ho1)) (fun _ h_ => h_.1))
           have n4_ := am_ (Kd.R_mono (Kd.R_told (Kd.R_told (Kd.R_old (ru HO_01.out) hb) (Kd.R_base ho0)) (Kd.R_base ho1)) (fun _ h_ => h_.1))
           have n5_ := am_ (Kd.N_mono (Kd.N_told (Kd.N_told (Kd.N_old (nu HO_04.out) hb) (Kd.R_base ho0)) (Kd.R_base ho1)) (fun _ h_ => h_.1))
           have n6_ := am_ (Kd.V_mono (Kd.V_told (Kd.V_told (Kd.V_old (vu HL573_0.out) hb) (Kd.R_base ho0)) (Kd.R_base ho1)) (fun _ h_ => h_.1))
           have n7_ := am_ (Kd.V_mono (Kd.V_told (Kd.V_told (Kd.V_old (vu HL573_1.out) hb) (Kd.R_base ho0)) (Kd.R_base ho1)) (fun _ h_ => h_.1))
           have n8_ := am_ (Kd.R_lower (Kd.R_new' (Kd.R_new' (Kd.R_new' (Kd.R_new' ho0 (Kd.R_lt (ru HO_02.out))) (Kd.R_lt (ru HO_03.out))) (Kd.R_lt (ru HO_00.out))) (Kd.R_lt (ru HO_01.out))) (below_size z3_10))
           have n9_ := am_ (Kd.R_lower (Kd.R_new' (Kd.R_new' (Kd.R_new' (Kd.R_new' ho1 (Kd.R_lt (ru HO_02.out))) (Kd.R_lt (ru HO_03.out))) (Kd.R_lt (ru HO_00.out))) (Kd.R_lt (ru HO_01.out))) (below_size z3_10))
           have n10_ := am_ (blk_below (bu BK554.out) hb)
           have n11_ := am_ (blk_below (bu BK562.out) hb)
           have n12_ := am_ (blk_below (bu BK569.out) hb)
           have n13_ := am_ (Kd.C_below z3_7 hb)
           have n14_ := am_ (Kd.C_below z3_8 hb)
           have n15_ := am_ (below_step z3_10 hb)
           clear HO_10 HO_02 HO_03 HO_00 HO_01 HO_04 HL573_0 HL573_1 BK554 BK562 BK569 HR573_0 HR573_1 HB
           have HO_10 := n0_
           have HO_02 := n1_
           have HO_03 := n2_
           have HO_00 := n3_
           have HO_01 := n4_
           have HO_04 := n5_
           have HL573_0 := n6_
           have HL573_1 := n7_
           have HO576 := n8_
           have HO579 := n9_
           have BK554 := n10_
           have BK562 := n11_
           have BK569 := n12_
           have HR573_0 := n13_
           have HR573_1 := n14_
           have HB := n15_
           clear n0_ n1_ n2_ n3_ n4_ n5_ n6_ n7_ n8_ n9_ n10_ n11_ n12_ n13_ n14_ n15_
           (try clear hb)
           (try clear hb2)
           (try clear hk)
           (try clear hi)
           (try clear ho0)
           (try clear ho1)
           refine hK.out _ _ ⟨(blk_cell BK569.out 0).trans rfl, HS1_, HS2_⟩ (fun hHeld => ?_)
           clear hK K
           refine norm_ (a' := ?_) ?_ ?_
           rotate_left
           ·show Act.put _ (some 69) _ = _
            simp only [Act.put, List.setIfInBounds_toArray, List.set_cons_zero, List.set_cons_succ, i64_w, i32_w]
            rfl
           refine pure_ (i := 6) (N := some 63) (v := ?_) (a' := ?_) #[true, true, true, true, true, true, true, false, false, false, false, false] rfl rfl (any_of HT_.out (by kernel_rfl)) (fun _ _ _ h => h) (Or.inl ⟨by rfl, ?_⟩) ?_ ?_
           rotate_left
           ·intro w'
            go_simp
            with_reducible rfl
           rotate_left
           ·simp only [Act.put, List.setIfInBounds_toArray, List.set_cons_zero, List.set_cons_succ, i64_w, i32_w]
            rfl
           refine pure_ (i := 7) (N := some 70) (v := ?_) (a' := ?_) #[true, true, true, true, true, true, true, true, false, false, false, false] rfl rfl (any_of HT_.out (by kernel_rfl)) (fun _ _ _ h => h) (Or.inl ⟨by rfl, ?_⟩) ?_ ?_
           rotate_left
           ·intro w'
            go_simp
            with_reducible rfl
           rotate_left
           ·simp only [Act.put, List.setIfInBounds_toArray, List.set_cons_zero, List.set_cons_succ, i64_w, i32_w]
            rfl
           refine pure_ (i := 8) (N := some 71) (v := ?_) (a' := ?_) #[true, true, true, true, true, true, true, true, true, false, false, false] rfl rfl (any_of HT_.out (by kernel_rfl)) (fun _ _ _ h => h) (Or.inl ⟨by rfl, ?_⟩) ?_ ?_
           rotate_left
           ·intro w'
            go_simp
            with_reducible rfl
           rotate_left
           ·simp only [Act.put, List.setIfInBounds_toArray, List.set_cons_zero, List.set_cons_succ, i64_w, i32_w]
            rfl
           refine one_ (i := 9) (N := some 12) #[true, true, true, true, true, true, true, true, true, true, false, false] rfl rfl (one_of HT_.out (by kernel_rfl)) (by decide) (fun K hK => ?_)
           refine box_step ?hg (N := 12) ?hd (cs := #[.slice none 0 0, .slice none 0 0]) (t := 26) ?hr ?_; (case hd => rfl); (case hg => rfl); (case hr => first | (go_simp; done) | (go_simp; rfl))
           intro gb581 hg w58 hbox hb
           have HS1_ := (hb.cell (World.block_lt_of_cell? _ _ (hHeld.2.1))).trans (hHeld.2.1)
           have HS2_ := (hb.cell (World.block_lt_of_cell? _ _ (hHeld.2.2))).trans (hHeld.2.2)
           have n0_ := am_ (Kd.N_below (Kd.N_elderB (nu HO_10.out) gb581 (Nat.le_of_eq hg.symm)) hb)
           have n1_ := am_ (Kd.R_below (ru HO_02.out) hb)
           have n2_ := am_ (Kd.R_below (ru HO_03.out) hb)
           have n3_ := am_ (Kd.R_below (ru HO_00.out) hb)
           have n4_ := am_ (Kd.R_below (ru HO_01.out) hb)
           have n5_ := am_ (Kd.N_below (Kd.N_elderB (nu HO_04.out) gb581 (Nat.le_of_eq hg.symm)) hb)
           have n6_ := am_ (Kd.V_below (Kd.V_elderB (vu HL573_0.out) gb581 (Nat.le_of_eq hg.symm)) hb)
           have n7_ := am_ (Kd.V_below (Kd.V_elderB (vu HL573_1.out) gb581 (Nat.le_of_eq hg.symm)) hb)
           have n8_ := am_ (Kd.R_below (ru HO576.out) hb)
           have n9_ := am_ (Kd.R_below (ru HO579.out) hb)
           have n10_ := am_ (blk_below (bu BK554.out) hb)
           have n11_ := am_ (blk_below (bu BK562.out) hb)
           have n12_ := am_ (blk_below (bu BK569.out) hb)
           have n13_ := am_ (Kd.C_below z3_7 hb)
           have n14_ := am_ (Kd.C_below z3_8 hb)
           have n15_ := am_ (below_step z3_10 hb)
           have n16_ := am_ (hbox)
           have n17_ := am_ ((by rw [hg]; exact (below_size z3_10) : w.heap.size ≤ gb581))
           have n18_ := am_ ((by rw [hg]; exact (below_size z3_10) : w.heap.size ≤ gb581))
           have n19_ := am_ ((by rw [hg]; exact Nat.ne_of_lt (blk_lt (bu BK554.out)) : gb554 ≠ gb581))
           have n20_ := am_ ((by rw [hg]; exact Nat.ne_of_gt (blk_lt (bu BK554.out)) : gb581 ≠ gb554))
           have n21_ := am_ ((by rw [hg]; exact Nat.ne_of_lt (blk_lt (bu BK562.out)) : gb562 ≠ gb581))
           have n22_ := am_ ((by rw [hg]; exact Nat.ne_of_gt (blk_lt (bu BK562.out)) : gb581 ≠ gb562))
           have n23_ := am_ ((by rw [hg]; exact Nat.ne_of_lt (blk_lt (bu BK569.out)) : gb569 ≠ gb581))
           have n24_ := am_ ((by rw [hg]; exact Nat.ne_of_gt (blk_lt (bu BK569.out)) : gb581 ≠ gb569))
           clear HO_10 HO_02 HO_03 HO_00 HO_01 HO_04 HL573_0 HL573_1 HO576 HO579 BK554 BK562 BK569 HR573_0 HR573_1 HB
           have HO_10 := n0_
           have HO_02 := n1_
           have HO_03 := n2_
           have HO_00 := n3_
           have HO_01 := n4_
           have HO_04 := n5_
           have HL573_0 := n6_
           have HL573_1 := n7_
           have HO576 := n8_
           have HO579 := n9_
           have BK554 := n10_
           have BK562 := n11_
           have BK569 := n12_
           have HR573_0 := n13_
           have HR573_1 := n14_
           have HB := n15_
           have BK581 := n16_
           have GW581 := n17_
           have GE581 := n18_
           have NB554_581 := n19_
           have NB581_554 := n20_
           have NB562_581 := n21_
           have NB581_562 := n22_
           have NB569_581 := n23_
           have NB581_569 := n24_
           clear n0_ n1_ n2_ n3_ n4_ n5_ n6_ n7_ n8_ n9_ n10_ n11_ n12_ n13_ n14_ n15_ n16_ n17_ n18_ n19_ n20_ n21_ n22_ n23_ n24_ hb hbox hg
           refine hK.out _ _ ⟨(blk_cell BK569.out 0).trans rfl, HS1_, HS2_⟩ (fun hHeld => ?_)
           clear hK K
           refine norm_ (a' := ?_) ?_ ?_
           rotate_left
           ·show Act.put _ (some 12) _ = _
            simp only [Act.put, List.setIfInBounds_toArray, List.set_cons_zero, List.set_cons_succ, i64_w, i32_w]
            rfl
           exact norm_ z3_4 (hCont (v575, v578, gb581) _ ⟨hHeld, (vu (Kd.V_mono HL573_0.out (fun _ hk => ⟨hk.1.1.2, ⟨hk.1.2, ⟨hk.1.1.1.2, ⟨hk.1.1.1.1.1, ⟨hk.1.1.1.1.2.1, ⟨hk.1.1.1.1.2.2.1, ⟨hk.1.1.1.1.2.2.2.1, ⟨hk.1.1.1.1.2.2.2.2.1, ⟨hk.1.1.1.1.2.2.2.2.2.1, ⟨hk.1.1.1.1.2.2.2.2.2.2, hk.2⟩⟩⟩⟩⟩⟩⟩⟩⟩⟩))), (vu (Kd.V_mono HL573_1.out (fun _ hk => ⟨hk.1.1.2, ⟨hk.1.2, ⟨hk.1.1.1.2, ⟨hk.1.1.1.1.1, ⟨hk.1.1.1.1.2.1, ⟨hk.1.1.1.1.2.2.1, ⟨hk.1.1.1.1.2.2.2.1, ⟨hk.1.1.1.1.2.2.2.2.1, ⟨hk.1.1.1.1.2.2.2.2.2.1, ⟨hk.1.1.1.1.2.2.2.2.2.2, hk.2⟩⟩⟩⟩⟩⟩⟩⟩⟩⟩))), (ru (Kd.R_mono HO576.out (fun _ hk => ⟨hk.1.1.1.1, ⟨hk.1.1.1.2, ⟨hk.1.1.2, ⟨hk.1.2, hk.2⟩⟩⟩⟩))), (ru (Kd.R_mono HO579.out (fun _ hk => ⟨hk.1.1.1.1, ⟨hk.1.1.1.2, ⟨hk.1.1.2, ⟨hk.1.2, hk.2⟩⟩⟩⟩))), (nu (Kd.N_mono HO_10.out (fun _ hk => ⟨hk.1.1.2, ⟨hk.1.2, ⟨hk.1.1.1.1, ⟨hk.1.1.1.2.1, ⟨hk.1.1.1.2.2.1, ⟨hk.1.1.1.2.2.2.1, ⟨hk.1.1.1.2.2.2.2.1, ⟨hk.1.1.1.2.2.2.2.2.1, ⟨hk.1.1.1.2.2.2.2.2.2, hk.2⟩⟩⟩⟩⟩⟩⟩⟩⟩))), (ru (Kd.R_mono HO_02.out (fun _ hk => ⟨hk.1.2, ⟨hk.2, ⟨hk.1.1.1, ⟨hk.1.1.2.1, hk.1.1.2.2⟩⟩⟩⟩))), (ru (Kd.R_mono HO_03.out (fun _ hk => ⟨hk.1.2, ⟨hk.2, ⟨hk.1.1.1, ⟨hk.1.1.2.1, hk.1.1.2.2⟩⟩⟩⟩))), (ru (Kd.R_mono HO_00.out (fun _ hk => ⟨hk.1.2, ⟨hk.2, ⟨hk.1.1.1, ⟨hk.1.1.2.1, hk.1.1.2.2⟩⟩⟩⟩))), (ru (Kd.R_mono HO_01.out (fun _ hk => ⟨hk.1.2, ⟨hk.2, ⟨hk.1.1.1, ⟨hk.1.1.2.1, hk.1.1.2.2⟩⟩⟩⟩))), (nu (Kd.N_mono HO_04.out (fun _ hk => ⟨hk.1.1.2, ⟨hk.1.2, ⟨hk.1.1.1.1, ⟨hk.1.1.1.2.1, ⟨hk.1.1.1.2.2.1, ⟨hk.1.1.1.2.2.2.1, ⟨hk.1.1.1.2.2.2.2.1, ⟨hk.1.1.1.2.2.2.2.2.1, ⟨hk.1.1.1.2.2.2.2.2.2.1, ⟨hk.1.1.1.2.2.2.2.2.2.2, hk.2⟩⟩⟩⟩⟩⟩⟩⟩⟩⟩))), (bu BK554.out), (bu BK562.out), (bu BK569.out), (bu BK581.out), GW581.out, GE581.out, NB554_581.out, NB581_554.out, NB562_581.out, NB581_562.out, NB569_581.out, NB581_569.out, z3_11⟩)
          skip
          refine box_step ?hg (N := 12) ?hd (cs := #[.slice none 0 0, .slice none 0 0]) (t := 26) ?hr ?_; (case hd => rfl); (case hg => rfl); (case hr => first | (go_simp; done) | (go_simp; rfl))
          intro gb581 hg w57 hbox hb
          have HS1_ := (hb.cell (World.block_lt_of_cell? _ _ (hHeld.2.1))).trans (hHeld.2.1)
          have HS2_ := (hb.cell (World.block_lt_of_cell? _ _ (hHeld.2.2))).trans (hHeld.2.2)
          have n0_ := am_ (Kd.N_below (Kd.N_elderB (nu HO_10.out) gb581 (Nat.le_of_eq hg.symm)) hb)
          have n1_ := am_ (Kd.R_below (ru HO_02.out) hb)
          have n2_ := am_ (Kd.R_below (ru HO_03.out) hb)
          have n3_ := am_ (Kd.R_below (ru HO_00.out) hb)
          have n4_ := am_ (Kd.R_below (ru HO_01.out) hb)
          have n5_ := am_ (Kd.N_below (Kd.N_elderB (nu HO_04.out) gb581 (Nat.le_of_eq hg.symm)) hb)
          have n6_ := am_ (Kd.V_below (Kd.V_elderB (vu HL573_0.out) gb581 (Nat.le_of_eq hg.symm)) hb)
          have n7_ := am_ (Kd.V_below (Kd.V_elderB (vu HL573_1.out) gb581 (Nat.le_of_eq hg.symm)) hb)
          have n8_ := am_ (blk_below (bu BK554.out) hb)
          have n9_ := am_ (blk_below (bu BK562.out) hb)
          have n10_ := am_ (blk_below (bu BK569.out) hb)
          have n11_ := am_ (Kd.C_below z3_7 hb)
          have n12_ := am_ (Kd.C_below z3_8 hb)
          have n13_ := am_ (below_step z3_10 hb)
          have n14_ := am_ (hbox)
          have n15_ := am_ ((by rw [hg]; exact (below_size z3_10) : w.heap.size ≤ gb581))
          have n16_ := am_ ((by rw [hg]; exact (below_size z3_10) : w.heap.size ≤ gb581))
          have n17_ := am_ ((by rw [hg]; exact Nat.ne_of_lt (blk_lt (bu BK554.out)) : gb554 ≠ gb581))
          have n18_ := am_ ((by rw [hg]; exact Nat.ne_of_gt (blk_lt (bu BK554.out)) : gb581 ≠ gb554))
          have n19_ := am_ ((by rw [hg]; exact Nat.ne_of_lt (blk_lt (bu BK562.out)) : gb562 ≠ gb581))
          have n20_ := am_ ((by rw [hg]; exact Nat.ne_of_gt (blk_lt (bu BK562.out)) : gb581 ≠ gb562))
          have n21_ := am_ ((by rw [hg]; exact Nat.ne_of_lt (blk_lt (bu BK569.out)) : gb569 ≠ gb581))
          have n22_ := am_ ((by rw [hg]; exact Nat.ne_of_gt (blk_lt (bu BK569.out)) : gb581 ≠ gb569))
          clear HO_10 HO_02 HO_03 HO_00 HO_01 HO_04 HL573_0 HL573_1 BK554 BK562 BK569 HR573_0 HR573_1 HB
          have HO_10 := n0_
          have HO_02 := n1_
          have HO_03 := n2_
          have HO_00 := n3_
          have HO_01 := n4_
          have HO_04 := n5_
          have HL573_0 := n6_
          have HL573_1 := n7_
          have BK554 := n8_
          have BK562 := n9_
          have BK569 := n10_
          have HR573_0 := n11_
          have HR573_1 := n12_
          have HB := n13_
          have BK581 := n14_
          have GW581 := n15_
          have GE581 := n16_
          have NB554_581 := n17_
          have NB581_554 := n18_
          have NB562_581 := n19_
          have NB581_562 := n20_
          have NB569_581 := n21_
          have NB581_569 := n22_
          clear n0_ n1_ n2_ n3_ n4_ n5_ n6_ n7_ n8_ n9_ n10_ n11_ n12_ n13_ n14_ n15_ n16_ n17_ n18_ n19_ n20_ n21_ n22_ hb hbox hg
          refine hK.out _ _ ⟨(blk_cell BK569.out 0).trans rfl, HS1_, HS2_⟩ (fun hHeld => ?_)
          clear hK K
          refine norm_ (a' := ?_) ?_ ?_
          rotate_left
          ·show Act.put _ (some 12) _ = _
           simp only [Act.put, List.setIfInBounds_toArray, List.set_cons_zero, List.set_cons_succ, i64_w, i32_w]
           rfl
          refine one_ (i := 5) (N := some 69) #[true, true, true, true, true, true, false, false, false, true, false, false] rfl rfl (one_of HT_.out (by kernel_rfl)) (by decide) (fun K hK => ?_)
          refine goes_ Try.func10 (by kernel_rfl) rfl #[.agg #[.slice Ao41 t565.length co41], .agg #[.slice A573_0 ((rd_T40 t570 x11_2).f0).length c573_0, .slice A573_1 ((rd_T40 t570 x11_2).f1).length c573_1]] (by rfl) rfl rfl (by (try simp only [List.map_toArray, List.map_cons, List.map_nil]); first | done | rfl | (simp only [List.length_drop, List.length_take]; rfl)) ?_
          with_reducible refine (impl_ExecSeen.calls k2 _ _ t565 _ _ ((rd_T40 t570 x11_2).f0) _ _ ((rd_T40 t570 x11_2).f1) t574 t577 t580 _ ?side1 ?side2 ?side3 ?side4 ?side5 ?side6 A50.out).mono ?_
          (case side1 => repeat (first | exact (Kd.N_reads' HO_04.out).2.2 | (with_reducible refine Kd.C_alloc ?_ _) | (with_reducible refine Kd.C_drewN ?_ _) | (with_reducible refine Kd.C_drew ?_)))
          (case side2 => exact (Kd.N_reads' HO_04.out).2.1)
          (case side3 => repeat (first | exact z3_7 | (with_reducible refine Kd.C_alloc ?_ _) | (with_reducible refine Kd.C_drewN ?_ _) | (with_reducible refine Kd.C_drew ?_)))
          (case side4 => exact HC573_0.out)
          (case side5 => repeat (first | exact z3_8 | (with_reducible refine Kd.C_alloc ?_ _) | (with_reducible refine Kd.C_drewN ?_ _) | (with_reducible refine Kd.C_drew ?_)))
          (case side6 => exact HC573_1.out)
          rintro e w58 ⟨v575, v578, rfl, ho0, ho1, hb⟩
          have HS1_ := (hb.cell (World.block_lt_of_cell? _ _ (hHeld.2.1))).trans (hHeld.2.1)
          have HS2_ := (hb.cell (World.block_lt_of_cell? _ _ (hHeld.2.2))).trans (hHeld.2.2)
          refine ⟨_, rfl, ?_⟩
          have n0_ := am_ (Kd.N_mono (Kd.N_told (Kd.N_told (Kd.N_old (nu HO_10.out) hb) (Kd.R_base ho0)) (Kd.R_base ho1)) (fun _ h_ => h_.1))
          have n1_ := am_ (Kd.R_mono (Kd.R_told (Kd.R_told (Kd.R_old (ru HO_02.out) hb) (Kd.R_base ho0)) (Kd.R_base ho1)) (fun _ h_ => h_.1))
          have n2_ := am_ (Kd.R_mono (Kd.R_told (Kd.R_told (Kd.R_old (ru HO_03.out) hb) (Kd.R_base ho0)) (Kd.R_base ho1)) (fun _ h_ => h_.1))
          have n3_ := am_ (Kd.R_mono (Kd.R_told (Kd.R_told (Kd.R_old (ru HO_00.out) hb) (Kd.R_base ho0)) (Kd.R_base ho1)) (fun _ h_ => h_.1))
          have n4_ := am_ (Kd.R_mono (Kd.R_told (Kd.R_told (Kd.R_old (ru HO_01.out) hb) (Kd.R_base ho0)) (Kd.R_base ho1)) (fun _ h_ => h_.1))
          have n5_ := am_ (Kd.N_mono (Kd.N_told (Kd.N_told (Kd.N_old (nu HO_04.out) hb) (Kd.R_base ho0)) (Kd.R_base ho1)) (fun _ h_ => h_.1))
          have n6_ := am_ (Kd.V_mono (Kd.V_told (Kd.V_told (Kd.V_old (vu HL573_0.out) hb) (Kd.R_base ho0)) (Kd.R_base ho1)) (fun _ h_ => h_.1))
          have n7_ := am_ (Kd.V_mono (Kd.V_told (Kd.V_told (Kd.V_old (vu HL573_1.out) hb) (Kd.R_base ho0)) (Kd.R_base ho1)) (fun _ h_ => h_.1))
          have n8_ := am_ (Kd.R_lower (Kd.R_new' (Kd.R_new' (Kd.R_new' (Kd.R_new' ho0 (Kd.R_lt (ru HO_02.out))) (Kd.R_lt (ru HO_03.out))) (Kd.R_lt (ru HO_00.out))) (Kd.R_lt (ru HO_01.out))) (below_size z3_11))
          have n9_ := am_ (Kd.R_lower (Kd.R_new' (Kd.R_new' (Kd.R_new' (Kd.R_new' ho1 (Kd.R_lt (ru HO_02.out))) (Kd.R_lt (ru HO_03.out))) (Kd.R_lt (ru HO_00.out))) (Kd.R_lt (ru HO_01.out))) (below_size z3_11))
          have n10_ := am_ (blk_below (bu BK554.out) hb)
          have n11_ := am_ (blk_below (bu BK562.out) hb)
          have n12_ := am_ (blk_below (bu BK569.out) hb)
          have n13_ := am_ (Kd.C_below z3_7 hb)
          have n14_ := am_ (Kd.C_below z3_8 hb)
          have n15_ := am_ (blk_below (bu BK581.out) hb)
          have n16_ := am_ (below_step z3_11 hb)
          clear HO_10 HO_02 HO_03 HO_00 HO_01 HO_04 HL573_0 HL573_1 BK554 BK562 BK569 HR573_0 HR573_1 BK581 HB
          have HO_10 := n0_
          have HO_02 := n1_
          have HO_03 := n2_
          have HO_00 := n3_
          have HO_01 := n4_
          have HO_04 := n5_
          have HL573_0 := n6_
          have HL573_1 := n7_
          have HO576 := n8_
          have HO579 := n9_
          have BK554 := n10_
          have BK562 := n11_
          have BK569 := n12_
          have HR573_0 := n13_
          have HR573_1 := n14_
          have BK581 := n15_
          have HB := n16_
          clear n0_ n1_ n2_ n3_ n4_ n5_ n6_ n7_ n8_ n9_ n10_ n11_ n12_ n13_ n14_ n15_ n16_
          (try clear hb)
          (try clear hb2)
          (try clear hk)
          (try clear hi)
          (try clear ho0)
          (try clear ho1)
          refine hK.out _ _ ⟨(blk_cell BK569.out 0).trans rfl, HS1_, HS2_⟩ (fun hHeld => ?_)
          clear hK K
          refine norm_ (a' := ?_) ?_ ?_
          rotate_left
          ·show Act.put _ (some 69) _ = _
           simp only [Act.put, List.setIfInBounds_toArray, List.set_cons_zero, List.set_cons_succ, i64_w, i32_w]
           rfl
          refine pure_ (i := 6) (N := some 63) (v := ?_) (a' := ?_) #[true, true, true, true, true, true, true, false, false, true, false, false] rfl rfl (any_of HT_.out (by kernel_rfl)) (fun _ _ _ h => h) (Or.inl ⟨by rfl, ?_⟩) ?_ ?_
          rotate_left
          ·intro w'
           go_simp
           with_reducible rfl
          rotate_left
          ·simp only [Act.put, List.setIfInBounds_toArray, List.set_cons_zero, List.set_cons_succ, i64_w, i32_w]
           rfl
          refine pure_ (i := 7) (N := some 70) (v := ?_) (a' := ?_) #[true, true, true, true, true, true, true, true, false, true, false, false] rfl rfl (any_of HT_.out (by kernel_rfl)) (fun _ _ _ h => h) (Or.inl ⟨by rfl, ?_⟩) ?_ ?_
          rotate_left
          ·intro w'
           go_simp
           with_reducible rfl
          rotate_left
          ·simp only [Act.put, List.setIfInBounds_toArray, List.set_cons_zero, List.set_cons_succ, i64_w, i32_w]
           rfl
          refine pure_ (i := 8) (N := some 71) (v := ?_) (a' := ?_) #[true, true, true, true, true, true, true, true, true, true, false, false] rfl rfl (any_of HT_.out (by kernel_rfl)) (fun _ _ _ h => h) (Or.inl ⟨by rfl, ?_⟩) ?_ ?_
          rotate_left
          ·intro w'
           go_simp
           with_reducible rfl
          rotate_left
          ·simp only [Act.put, List.setIfInBounds_toArray, List.set_cons_zero, List.set_cons_succ, i64_w, i32_w]
           rfl
          exact norm_ z3_4 (hCont (v575, v578, gb581) _ ⟨hHeld, (vu (Kd.V_mono HL573_0.out (fun _ hk => ⟨hk.1.2, ⟨hk.2, ⟨hk.1.1.1.2, ⟨hk.1.1.1.1.1, ⟨hk.1.1.1.1.2.1, ⟨hk.1.1.1.1.2.2.1, ⟨hk.1.1.1.1.2.2.2.1, ⟨hk.1.1.1.1.2.2.2.2.1, ⟨hk.1.1.1.1.2.2.2.2.2.1, ⟨hk.1.1.1.1.2.2.2.2.2.2, hk.1.1.2⟩⟩⟩⟩⟩⟩⟩⟩⟩⟩))), (vu (Kd.V_mono HL573_1.out (fun _ hk => ⟨hk.1.2, ⟨hk.2, ⟨hk.1.1.1.2, ⟨hk.1.1.1.1.1, ⟨hk.1.1.1.1.2.1, ⟨hk.1.1.1.1.2.2.1, ⟨hk.1.1.1.1.2.2.2.1, ⟨hk.1.1.1.1.2.2.2.2.1, ⟨hk.1.1.1.1.2.2.2.2.2.1, ⟨hk.1.1.1.1.2.2.2.2.2.2, hk.1.1.2⟩⟩⟩⟩⟩⟩⟩⟩⟩⟩))), (ru (Kd.R_mono HO576.out (fun _ hk => ⟨hk.1.1.1.1, ⟨hk.1.1.1.2, ⟨hk.1.1.2, ⟨hk.1.2, hk.2⟩⟩⟩⟩))), (ru (Kd.R_mono HO579.out (fun _ hk => ⟨hk.1.1.1.1, ⟨hk.1.1.1.2, ⟨hk.1.1.2, ⟨hk.1.2, hk.2⟩⟩⟩⟩))), (nu (Kd.N_mono HO_10.out (fun _ hk => ⟨hk.1.2, ⟨hk.2, ⟨hk.1.1.1.1, ⟨hk.1.1.1.2.1, ⟨hk.1.1.1.2.2.1, ⟨hk.1.1.1.2.2.2.1, ⟨hk.1.1.1.2.2.2.2.1, ⟨hk.1.1.1.2.2.2.2.2.1, ⟨hk.1.1.1.2.2.2.2.2.2, hk.1.1.2⟩⟩⟩⟩⟩⟩⟩⟩⟩))), (ru (Kd.R_mono HO_02.out (fun _ hk => ⟨hk.1.2, ⟨hk.2, ⟨hk.1.1.1, ⟨hk.1.1.2.1, hk.1.1.2.2⟩⟩⟩⟩))), (ru (Kd.R_mono HO_03.out (fun _ hk => ⟨hk.1.2, ⟨hk.2, ⟨hk.1.1.1, ⟨hk.1.1.2.1, hk.1.1.2.2⟩⟩⟩⟩))), (ru (Kd.R_mono HO_00.out (fun _ hk => ⟨hk.1.2, ⟨hk.2, ⟨hk.1.1.1, ⟨hk.1.1.2.1, hk.1.1.2.2⟩⟩⟩⟩))), (ru (Kd.R_mono HO_01.out (fun _ hk => ⟨hk.1.2, ⟨hk.2, ⟨hk.1.1.1, ⟨hk.1.1.2.1, hk.1.1.2.2⟩⟩⟩⟩))), (nu (Kd.N_mono HO_04.out (fun _ hk => ⟨hk.1.2, ⟨hk.2, ⟨hk.1.1.1.1, ⟨hk.1.1.1.2.1, ⟨hk.1.1.1.2.2.1, ⟨hk.1.1.1.2.2.2.1, ⟨hk.1.1.1.2.2.2.2.1, ⟨hk.1.1.1.2.2.2.2.2.1, ⟨hk.1.1.1.2.2.2.2.2.2.1, ⟨hk.1.1.1.2.2.2.2.2.2.2, hk.1.1.2⟩⟩⟩⟩⟩⟩⟩⟩⟩⟩))), (bu BK554.out), (bu BK562.out), (bu BK569.out), (bu BK581.out), GW581.out, GE581.out, NB554_581.out, NB581_554.out, NB562_581.out, NB581_562.out, NB569_581.out, NB581_569.out, z3_11⟩)
         rintro ⟨v575, v578, gb581⟩ w59 ⟨hS_, h0_, h1_, h2_, h3_, h4_, h5_, h6_, h7_, h8_, h9_, h10_, h11_, h12_, h13_, h14_, h15_, h16_, h17_, h18_, h19_, h20_, h21_, h22_⟩
         have HL573_0 := am_ h0_
         have HL573_1 := am_ h1_
         have HO576 := am_ h2_
         have HO579 := am_ h3_
         replace HO_10 := am_ h4_
         replace HO_02 := am_ h5_
         replace HO_03 := am_ h6_
         replace HO_00 := am_ h7_
         replace HO_01 := am_ h8_
         replace HO_04 := am_ h9_
         replace BK554 := am_ h10_
         replace BK562 := am_ h11_
         replace BK569 := am_ h12_
         have BK581 := am_ h13_
         have GW581 := am_ h14_
         have GE581 := am_ h15_
         have NB554_581 := am_ h16_
         have NB581_554 := am_ h17_
         have NB562_581 := am_ h18_
         have NB581_562 := am_ h19_
         have NB569_581 := am_ h20_
         have NB581_569 := am_ h21_
         replace HB := am_ h22_
         clear h0_ h1_ h2_ h3_ h4_ h5_ h6_ h7_ h8_ h9_ h10_ h11_ h12_ h13_ h14_ h15_ h16_ h17_ h18_ h19_ h20_ h21_ h22_
         have hHeld : w59.cell? ⟨gb569, 0, none⟩ = some (.slice Ao41 t565.length co41) ∧ w59.cell? (ad573.add ((x11_2).toNat * 2)) = some (.slice A573_0 ((rd_T40 t570 x11_2).f0).length c573_0) ∧ w59.cell? ⟨(ad573.add ((x11_2).toNat * 2)).block, (ad573.add ((x11_2).toNat * 2)).off + 1, none⟩ = some (.slice A573_1 ((rd_T40 t570 x11_2).f1).length c573_1) := hS_
         obtain ⟨Ao60, co60, eo60⟩ := Kd.R_slice HO576.out
         (first | subst eo60 | (injection eo60 with f1_ f2_ f3_; have f4_ := f1_.symm; have f5_ := f3_.symm; clear f1_ f2_ f3_; subst f4_; subst f5_))
         obtain ⟨Ao62, co62, eo62⟩ := Kd.R_slice HO579.out
         (first | subst eo62 | (injection eo62 with f1_ f2_ f3_; have f4_ := f1_.symm; have f5_ := f3_.symm; clear f1_ f2_ f3_; subst f4_; subst f5_))
         refine norm_ (a' := ?_) ?_ ?_
         rotate_left
         ·simp only [putAll, Act.put, List.setIfInBounds_toArray, List.set_cons_zero, List.set_cons_succ]
          rfl
         refine one_ (i := 10) (N := none) #[true, true, true, true, true, true, true, true, true, true, true, false] rfl rfl (one_of HT_.out (by kernel_rfl)) (by decide) (fun K hK => ?_)
         have hs61 : w59.cell? ⟨gb581, 0, none⟩ = some (.slice none 0 0) := (blk_cell BK581.out 0).trans rfl
         have hfs61 := blk_frozen BK581.out 0
         have hns61_0 := NB554_581.out
         have hns61_1 := NB562_581.out
         have hns61_2 := NB569_581.out
         have hms61_0 := NB581_554.out
         have hms61_1 := NB581_562.out
         have hms61_2 := NB581_569.out
         have hs63 : w59.cell? ⟨gb581, 1, none⟩ = some (.slice none 0 0) := (blk_cell BK581.out 1).trans rfl
         have hfs63 := blk_frozen BK581.out 1
         have hns63_0 := NB554_581.out
         have hns63_1 := NB562_581.out
         have hns63_2 := NB569_581.out
         have hms63_0 := NB581_554.out
         have hms63_1 := NB581_562.out
         have hms63_2 := NB581_569.out
         refine skip_ (w1 := ?_) (by rfl) rfl ?_ ?_
         rotate_left
         ·go_simp
          rfl
         refine hK.out _ _ ⟨((cell_far (p := ⟨gb581, _, none⟩) NB569_581.out _).trans (((cell_far (p := ⟨gb581, _, none⟩) NB569_581.out _).trans (hHeld.1)))), ((cell_far (p := ⟨gb581, _, none⟩) z3_12 _).trans (((cell_far (p := ⟨gb581, _, none⟩) z3_12 _).trans (hHeld.2.1)))), ((cell_far (p := ⟨gb581, _, none⟩) z3_12 _).trans (((cell_far (p := ⟨gb581, _, none⟩) z3_12 _).trans (hHeld.2.2))))⟩ (fun hHeld => ?_)
         clear hK K
         refine pure_ (i := 11) (N := some 13) (v := ?_) (a' := ?_) #[true, true, true, true, true, true, true, true, true, true, true, true] rfl rfl (any_of HT_.out (by kernel_rfl)) (fun _ _ _ h => h) (Or.inl ⟨by rfl, ?_⟩) ?_ ?_
         rotate_left
         ·intro w'
          go_simp
          with_reducible rfl
         rotate_left
         ·simp only [Act.put, List.setIfInBounds_toArray, List.set_cons_zero, List.set_cons_succ, i64_w, i32_w]
          rfl
         refine done_ (done_of HT_.out (by kernel_rfl)) ?_
         have hnb64 := NB581_554.out
         have hnc64 := NB554_581.out
         have hnb65 := NB581_562.out
         have hnc65 := NB562_581.out
         have hnb66 := NB581_569.out
         have hnc66 := NB569_581.out
         have hcz67_0 := cf0 BK581.out
         have hcz67_1 := cf1 BK581.out
         have hfz67_0 := blk_frozen BK581.out 0
         have hfz67_1 := blk_frozen BK581.out 1
         have hnb68 := NB562_554.out
         have hnc68 := NB554_562.out
         have hnb69 := NB562_569.out
         have hnc69 := NB569_562.out
         have hcz70_0 := cf0 BK562.out
         have hcz70_1 := cf1 BK562.out
         have hfz70_0 := blk_frozen BK562.out 0
         have hfz70_1 := blk_frozen BK562.out 1
         try go_wp2_with (first | ((with_reducible refine gate_callee (f := 7) rfl ?_); refine goesL_ (some 74) rfl rfl Try.func7 (by kernel_rfl) rfl #[.agg #[.slice Ao60 t574.length co60, .slice Ao62 t577.length co62], .agg #[.slice Ao15 t555.length co15, .slice Ao18 t558.length co18]] rfl (by (try simp only [List.map_toArray, List.map_cons, List.map_nil]); first | done | rfl | (simp only [List.length_drop, List.length_take]; rfl)) ?_; (with_reducible refine (laws_lpSame.calls k2 _ _ t574 _ _ t577 _ _ t555 _ _ t558 true _ ?side1 ?side2 ?side3 ?side4 ?side5 ?side6 ?side7 ?side8 A51.out).mono ?_); (case side1 => refine (Kd.R_reads' (e := 3) (base := w.heap.size) (ok := fun k_ => (some k_ ≠ (.slice Ao62 t577.length co62 : Value).ownBlock ∧ (some k_ ≠ (.slice Ao10 t547.length co10 : Value).ownBlock ∧ (some k_ ≠ (.slice Ao12 t550.length co12 : Value).ownBlock ∧ (some k_ ≠ (.slice Ao15 t555.length co15 : Value).ownBlock ∧ some k_ ≠ (.slice Ao18 t558.length co18 : Value).ownBlock))))) (n := t574.length) (c := co60) ?_).2.2; exact (ru (Kd.R_mono (Kd.R_far (p := ⟨gb581, 1, none⟩) (Kd.R_far (p := ⟨gb581, 0, none⟩) (Kd.R_types HO576.out BK581.out (by decide)) (fun _ hk => hk.2) (.slice Ao60 t574.length co60)) (fun _ hk => hk.2) (.slice Ao62 t577.length co62)) (fun _ h_ => h_.1)))); (case side2 => exact (Kd.R_reads' HO576.out).2.1); (case side3 => refine (Kd.R_reads' (e := 3) (base := w.heap.size) (ok := fun k_ => (some k_ ≠ (.slice Ao60 t574.length co60 : Value).ownBlock ∧ (some k_ ≠ (.slice Ao10 t547.length co10 : Value).ownBlock ∧ (some k_ ≠ (.slice Ao12 t550.length co12 : Value).ownBlock ∧ (some k_ ≠ (.slice Ao15 t555.length co15 : Value).ownBlock ∧ some k_ ≠ (.slice Ao18 t558.length co18 : Value).ownBlock))))) (n := t577.length) (c := co62) ?_).2.2; exact (ru (Kd.R_mono (Kd.R_far (p := ⟨gb581, 1, none⟩) (Kd.R_far (p := ⟨gb581, 0, none⟩) (Kd.R_types HO579.out BK581.out (by decide)) (fun _ hk => hk.2) (.slice Ao60 t574.length co60)) (fun _ hk => hk.2) (.slice Ao62 t577.length co62)) (fun _ h_ => h_.1)))); (case side4 => exact (Kd.R_reads' HO579.out).2.1); (case side5 => refine (Kd.R_reads' (e := 3) (base := w.heap.size) (ok := fun k_ => (some k_ ≠ (.slice Ao60 t574.length co60 : Value).ownBlock ∧ (some k_ ≠ (.slice Ao62 t577.length co62 : Value).ownBlock ∧ (some k_ ≠ (.slice Ao10 t547.length co10 : Value).ownBlock ∧ (some k_ ≠ (.slice Ao12 t550.length co12 : Value).ownBlock ∧ some k_ ≠ (.slice Ao18 t558.length co18 : Value).ownBlock))))) (n := t555.length) (c := co15) ?_).2.2; exact (ru (Kd.R_mono (Kd.R_far (p := ⟨gb581, 1, none⟩) (Kd.R_far (p := ⟨gb581, 0, none⟩) (Kd.R_types HO_00.out BK581.out (by decide)) (fun _ hk => hk.2) (.slice Ao60 t574.length co60)) (fun _ hk => hk.2) (.slice Ao62 t577.length co62)) (fun _ h_ => h_.1)))); (case side6 => exact (Kd.R_reads' HO_00.out).2.1); (case side7 => refine (Kd.R_reads' (e := 3) (base := w.heap.size) (ok := fun k_ => (some k_ ≠ (.slice Ao60 t574.length co60 : Value).ownBlock ∧ (some k_ ≠ (.slice Ao62 t577.length co62 : Value).ownBlock ∧ (some k_ ≠ (.slice Ao10 t547.length co10 : Value).ownBlock ∧ (some k_ ≠ (.slice Ao12 t550.length co12 : Value).ownBlock ∧ some k_ ≠ (.slice Ao15 t555.length co15 : Value).ownBlock))))) (n := t558.length) (c := co18) ?_).2.2; exact (ru (Kd.R_mono (Kd.R_far (p := ⟨gb581, 1, none⟩) (Kd.R_far (p := ⟨gb581, 0, none⟩) (Kd.R_types HO_01.out BK581.out (by decide)) (fun _ hk => hk.2) (.slice Ao60 t574.length co60)) (fun _ hk => hk.2) (.slice Ao62 t577.length co62)) (fun _ h_ => h_.1)))); (case side8 => exact (Kd.R_reads' HO_01.out).2.1); rintro e w71 ⟨rfl, hb⟩; refine ⟨_, rfl, ?_⟩; replace HO_10 := am_ (Kd.N_below (nu (Kd.N_mono (Kd.N_far (p := ⟨gb581, 1, none⟩) (Kd.N_far (p := ⟨gb581, 0, none⟩) (Kd.N_mono HO_10.out (fun k_ hk => (⟨hk, hk.2.2.2.2.2.2.2.2.2⟩ : _ ∧ k_ ≠ gb581))) (fun _ hk => hk.2) (.slice Ao60 t574.length co60)) (fun _ hk => hk.2) (.slice Ao62 t577.length co62)) (fun _ h_ => h_.1))) hb); replace HO_02 := am_ (Kd.R_below (ru (Kd.R_mono (Kd.R_far (p := ⟨gb581, 1, none⟩) (Kd.R_far (p := ⟨gb581, 0, none⟩) (Kd.R_types HO_02.out BK581.out (by decide)) (fun _ hk => hk.2) (.slice Ao60 t574.length co60)) (fun _ hk => hk.2) (.slice Ao62 t577.length co62)) (fun _ h_ => h_.1))) hb); replace HO_03 := am_ (Kd.R_below (ru (Kd.R_mono (Kd.R_far (p := ⟨gb581, 1, none⟩) (Kd.R_far (p := ⟨gb581, 0, none⟩) (Kd.R_types HO_03.out BK581.out (by decide)) (fun _ hk => hk.2) (.slice Ao60 t574.length co60)) (fun _ hk => hk.2) (.slice Ao62 t577.length co62)) (fun _ h_ => h_.1))) hb); replace HO_00 := am_ (Kd.R_below (ru (Kd.R_mono (Kd.R_far (p := ⟨gb581, 1, none⟩) (Kd.R_far (p := ⟨gb581, 0, none⟩) (Kd.R_types HO_00.out BK581.out (by decide)) (fun _ hk => hk.2) (.slice Ao60 t574.length co60)) (fun _ hk => hk.2) (.slice Ao62 t577.length co62)) (fun _ h_ => h_.1))) hb); replace HO_01 := am_ (Kd.R_below (ru (Kd.R_mono (Kd.R_far (p := ⟨gb581, 1, none⟩) (Kd.R_far (p := ⟨gb581, 0, none⟩) (Kd.R_types HO_01.out BK581.out (by decide)) (fun _ hk => hk.2) (.slice Ao60 t574.length co60)) (fun _ hk => hk.2) (.slice Ao62 t577.length co62)) (fun _ h_ => h_.1))) hb); replace HO_04 := am_ (Kd.N_below (nu (Kd.N_mono (Kd.N_far (p := ⟨gb581, 1, none⟩) (Kd.N_far (p := ⟨gb581, 0, none⟩) (Kd.N_mono HO_04.out (fun k_ hk => (⟨hk, hk.2.2.2.2.2.2.2.2.2.2⟩ : _ ∧ k_ ≠ gb581))) (fun _ hk => hk.2) (.slice Ao60 t574.length co60)) (fun _ hk => hk.2) (.slice Ao62 t577.length co62)) (fun _ h_ => h_.1))) hb); replace HL573_0 := am_ (Kd.V_below (vu (Kd.V_mono (Kd.V_far (p := ⟨gb581, 1, none⟩) (Kd.V_far (p := ⟨gb581, 0, none⟩) (Kd.V_mono HL573_0.out (fun k_ hk => (⟨hk, hk.2.2.2.2.2.2.2.2.2.2⟩ : _ ∧ k_ ≠ gb581))) (fun _ hk => hk.2) (.slice Ao60 t574.length co60)) (fun _ hk => hk.2) (.slice Ao62 t577.length co62)) (fun _ h_ => h_.1))) hb); replace HL573_1 := am_ (Kd.V_below (vu (Kd.V_mono (Kd.V_far (p := ⟨gb581, 1, none⟩) (Kd.V_far (p := ⟨gb581, 0, none⟩) (Kd.V_mono HL573_1.out (fun k_ hk => (⟨hk, hk.2.2.2.2.2.2.2.2.2.2⟩ : _ ∧ k_ ≠ gb581))) (fun _ hk => hk.2) (.slice Ao60 t574.length co60)) (fun _ hk => hk.2) (.slice Ao62 t577.length co62)) (fun _ h_ => h_.1))) hb); replace HO576 := am_ (Kd.R_below (ru (Kd.R_mono (Kd.R_far (p := ⟨gb581, 1, none⟩) (Kd.R_far (p := ⟨gb581, 0, none⟩) (Kd.R_types HO576.out BK581.out (by decide)) (fun _ hk => hk.2) (.slice Ao60 t574.length co60)) (fun _ hk => hk.2) (.slice Ao62 t577.length co62)) (fun _ h_ => h_.1))) hb); replace HO579 := am_ (Kd.R_below (ru (Kd.R_mono (Kd.R_far (p := ⟨gb581, 1, none⟩) (Kd.R_far (p := ⟨gb581, 0, none⟩) (Kd.R_types HO579.out BK581.out (by decide)) (fun _ hk => hk.2) (.slice Ao60 t574.length co60)) (fun _ hk => hk.2) (.slice Ao62 t577.length co62)) (fun _ h_ => h_.1))) hb); replace BK554 := am_ (blk_below (g := gb554) (o := .cells #[.slice Ao10 t547.length co10, .slice Ao12 t550.length co12] 26 (0, 0)) z3_14 hb); replace BK562 := am_ (blk_below (g := gb562) (o := .cells #[.slice Ao15 t555.length co15, .slice Ao18 t558.length co18] 26 (0, 0)) z3_15 hb); replace BK569 := am_ (blk_below (g := gb569) (o := .cells #[.slice Ao41 t565.length co41] 32 (0, 0)) z3_16 hb); replace BK581 := am_ (blk_below (g := gb581) (o := .cells #[.slice Ao60 t574.length co60, .slice Ao62 t577.length co62] 26 (0, 0)) (by (with_reducible repeat (first | refine blk_drewN ?_ _ | refine blk_drew ?_ | refine blk_alloc ?_ _)); refine blk_put (cs := #[.slice Ao60 t574.length co60, .slice none 0 0]) ?_ 1 _ rfl; (with_reducible repeat (first | refine blk_drewN ?_ _ | refine blk_drew ?_ | refine blk_alloc ?_ _)); refine blk_put (cs := #[.slice none 0 0, .slice none 0 0]) ?_ 0 _ rfl; (with_reducible repeat (first | refine blk_drewN ?_ _ | refine blk_drew ?_ | refine blk_alloc ?_ _)); exact BK581.out) hb); replace HB := am_ (below_step z3_11 hb); (try clear hb); (try clear hb2); (try clear hk); (try clear hi); have hnb72 := NB569_554.out; have hnc72 := NB554_569.out; have hcz73_0 := cf0 BK569.out; have hfz73_0 := blk_frozen BK569.out 0; have hcz74_0 := cf0 BK562.out; have hcz74_1 := cf1 BK562.out; have hfz74_0 := blk_frozen BK562.out 0; have hfz74_1 := blk_frozen BK562.out 1) | (go_at_call 11; (with_reducible refine (impl_SeenOk.calls k2 _ _ t565 _ _ t555 _ _ t558 t583 _ ?side1 ?side2 ?side3 ?side4 ?side5 ?side6 A54.out).mono ?_); (case side1 => repeat (first | exact (Kd.N_reads' HO_04.out).2.2 | (with_reducible refine Kd.C_alloc ?_ _) | (with_reducible refine Kd.C_drewN ?_ _) | (with_reducible refine Kd.C_drew ?_))); (case side2 => exact (Kd.N_reads' HO_04.out).2.1); (case side3 => repeat (first | exact (Kd.R_reads' HO_00.out).2.2 | (with_reducible refine Kd.C_alloc ?_ _) | (with_reducible refine Kd.C_drewN ?_ _) | (with_reducible refine Kd.C_drew ?_))); (case side4 => exact (Kd.R_reads' HO_00.out).2.1); (case side5 => repeat (first | exact (Kd.R_reads' HO_01.out).2.2 | (with_reducible refine Kd.C_alloc ?_ _) | (with_reducible refine Kd.C_drewN ?_ _) | (with_reducible refine Kd.C_drew ?_))); (case side6 => exact (Kd.R_reads' HO_01.out).2.1); rintro e w75 ⟨rfl, hb⟩; replace HO_10 := am_ (Kd.N_below (nu HO_10.out) hb); replace HO_02 := am_ (Kd.R_below (ru HO_02.out) hb); replace HO_03 := am_ (Kd.R_below (ru HO_03.out) hb); replace HO_00 := am_ (Kd.R_below (ru HO_00.out) hb); replace HO_01 := am_ (Kd.R_below (ru HO_01.out) hb); replace HO_04 := am_ (Kd.N_below (nu HO_04.out) hb); replace HL573_0 := am_ (Kd.V_below (vu HL573_0.out) hb); replace HL573_1 := am_ (Kd.V_below (vu HL573_1.out) hb); replace HO576 := am_ (Kd.R_below (ru HO576.out) hb); replace HO579 := am_ (Kd.R_below (ru HO579.out) hb); replace BK554 := am_ (blk_below (bu BK554.out) hb); replace BK562 := am_ (blk_below (bu BK562.out) hb); replace BK569 := am_ (blk_below (bu BK569.out) hb); replace BK581 := am_ (blk_below (bu BK581.out) hb); replace HB := am_ (below_step z3_11 hb); (try clear hb); (try clear hb2); (try clear hk); (try clear hi)))
         go_ret
         exact ⟨z3_3, z3_11⟩
        replace c53 := Bool.eq_false_iff.mpr c53
        subst c53
        have H1 : (some false) = some r := by rw [if_neg (show ¬ (false = true) by decide)] at H; exact H
        clear H
        have H := H1
        clear H1
        obtain rfl := Option.some.inj H
        obtain ⟨Ao76, co76, eo76⟩ := Kd.N_slice HO_10.out
        subst eo76
        try go_wp2
        replace HO_10 := am_ (Kd.N_drew HO_10.out)
        replace HO_02 := am_ (Kd.R_drew HO_02.out)
        replace HO_03 := am_ (Kd.R_drew HO_03.out)
        replace HO_00 := am_ (Kd.R_drew HO_00.out)
        replace HO_01 := am_ (Kd.R_drew HO_01.out)
        replace HO_04 := am_ (Kd.N_drew HO_04.out)
        replace BK554 := am_ (blk_drew BK554.out)
        replace BK562 := am_ (blk_drew BK562.out)
        replace BK569 := am_ (blk_drew BK569.out)
        replace HB := am_ (below_drew1 HB.out)
        have p573 : 0 ≤ (x11_2 : Int) := of_decide_eq_true z3_2
        have q573 : x11_2 < (t570.length : Int) := of_decide_eq_true z3_2
        obtain ⟨ad573, A573_0, c573_0, A573_1, c573_1, e573, hx573_0, hx573_1, hl573_0, hi573_0, hl573_1, hi573_1⟩ := at_T40 (Kd.N_reads' HO_10.out).2.2 x11_2 p573 q573
        cases e573
        obtain ⟨ce573, hce573, hMe573, hcc573⟩ := Kd.N_get HO_10.out z40 x11_2 p573 z3_18
        obtain ⟨ua573_0, uc573_0, ua573_1, uc573_1, rfl, ul573_0, ge573_0, ul573_1, ge573_1⟩ := k40_openF hMe573
        have hv573_0 := hcc573 0 _ rfl
        rw [Nat.add_zero] at hv573_0
        replace hv573_0 := Option.some.inj (hv573_0.symm.trans hx573_0)
        injection hv573_0 with hva_ hvn_ hvc_
        rw [hva_] at ge573_0
        rw [hvc_] at ul573_0
        have HL573_0 := am_ (show Kd.V (Kd.int .i64) 3 _ w.heap.size _ _ ((rd_T40 t570 x11_2).f0) from Kd.V_mk ul573_0 ge573_0)
        clear hva_ hvn_ hvc_ ge573_0 ul573_0
        have hv573_1 := hcc573 1 _ rfl
        rw [add_field _ _ 1 (by omega)] at hv573_1
        replace hv573_1 := Option.some.inj (hv573_1.symm.trans hx573_1)
        injection hv573_1 with hva_ hvn_ hvc_
        rw [hva_] at ge573_1
        rw [hvc_] at ul573_1
        have HL573_1 := am_ (show Kd.V (Kd.slice 3 (Kd.int .i64)) 24 _ w.heap.size _ _ ((rd_T40 t570 x11_2).f1) from Kd.V_mk ul573_1 ge573_1)
        clear hva_ hvn_ hvc_ ge573_1 ul573_1 hcc573 hce573
        have HR573_0 := am_ hi573_0
        have HC573_0 := am_ hl573_0
        clear hi573_0 hl573_0
        have HR573_1 := am_ hi573_1
        have HC573_1 := am_ hl573_1
        clear hi573_1 hl573_1
        replace p573 := eq_true p573
        replace q573 := eq_true q573
        refine start_ (n := 12) (S := fun w' => w'.cell? ⟨gb569, 0, none⟩ = some (.slice Ao41 t565.length co41) ∧ w'.cell? (ad573.add ((x11_2).toNat * 2)) = some (.slice A573_0 ((rd_T40 t570 x11_2).f0).length c573_0) ∧ w'.cell? ⟨(ad573.add ((x11_2).toNat * 2)).block, (ad573.add ((x11_2).toNat * 2)).off + 1, none⟩ = some (.slice A573_1 ((rd_T40 t570 x11_2).f1).length c573_1)) (ds := []) #[false, false, false, false, false, false, false, false, false, false, false, false] (by kernel_rfl) rfl rfl ⟨(blk_cell BK569.out 0).trans rfl, hx573_0, hx573_1⟩ (fun hHeld => ?_); refine with_tabW laws_FnShapeOdd.tab13 laws_FnShapeOdd.bits13 (fun HT_ HW_ => ?_)
        generalize wr.drew = w77 at HO_10 HO_02 HO_03 HO_00 HO_01 HO_04 BK554 BK562 BK569 HB HL573_0 HL573_1 HR573_0 HR573_1 hx573_0 hx573_1 hHeld ⊢
        refine pure_ (i := 1) (N := some 65) (v := ?_) (a' := ?_) #[false, true, false, false, false, false, false, false, false, false, false, false] rfl rfl (any_of HT_.out (by kernel_rfl)) (fun _ _ _ h => h) (Or.inl ⟨by rfl, ?_⟩) ?_ ?_
        rotate_left
        ·intro w'
         go_simp
         with_reducible rfl
        rotate_left
        ·simp only [Act.put, List.setIfInBounds_toArray, List.set_cons_zero, List.set_cons_succ, i64_w, i32_w]
         rfl
        refine pure_ (i := 2) (N := some 66) (v := ?_) (a' := ?_) #[false, true, true, false, false, false, false, false, false, false, false, false] rfl rfl (any_of HT_.out (by kernel_rfl)) (fun _ _ _ h => h) (Or.inl ⟨by rfl, ?_⟩) ?_ ?_
        rotate_left
        ·intro w'
         go_simp
         with_reducible rfl
        rotate_left
        ·simp only [Act.put, List.setIfInBounds_toArray, List.set_cons_zero, List.set_cons_succ, i64_w, i32_w]
         rfl
        refine pure_ (i := 3) (N := some 67) (v := ?_) (a' := ?_) #[false, true, true, true, false, false, false, false, false, false, false, false] rfl rfl (any_of HT_.out (by kernel_rfl)) (fun _ _ _ h => h) (Or.inl ⟨by rfl, ?_⟩) ?_ ?_
        rotate_left
        ·intro w'
         go_simp
         with_reducible rfl
        rotate_left
        ·simp only [Act.put, List.setIfInBounds_toArray, List.set_cons_zero, List.set_cons_succ, i64_w, i32_w]
         rfl
        refine take_ (i := 0) (N := some 64) (v := ?_) (a' := ?_) #[true, true, true, true, false, false, false, false, false, false, false, false] rfl rfl (take_ofW HT_.out HW_.out (by kernel_rfl)) (fun _ _ _ h => h) (Or.inl ⟨by rfl, ?_⟩) hHeld ?_ ?_
        rotate_left
        ·rintro w' ⟨s0, s1, s2⟩
         go_simp
         with_reducible rfl
        rotate_left
        ·simp only [Act.put, List.setIfInBounds_toArray, List.set_cons_zero, List.set_cons_succ, i64_w, i32_w]
         rfl
        refine take_ (i := 4) (N := some 68) (v := ?_) (a' := ?_) #[true, true, true, true, true, false, false, false, false, false, false, false] rfl rfl (take_ofW HT_.out HW_.out (by kernel_rfl)) (fun _ _ _ h => h) (Or.inl ⟨by rfl, ?_⟩) hHeld ?_ ?_
        rotate_left
        ·rintro w' ⟨s0, s1, s2⟩
         go_simp
         with_reducible rfl
        rotate_left
        ·simp only [Act.put, List.setIfInBounds_toArray, List.set_cons_zero, List.set_cons_succ, i64_w, i32_w]
         rfl
        refine join_ (σ := Value × Value × Nat) 2 #[true, true, true, true, true, true, true, true, true, true, false, false] (fun s_ => [(69, .tuple #[.agg #[s_.1, s_.2.1], .bool t580]), (12, .pointer (some ⟨s_.2.2, 0, none⟩)), (63, .tuple #[.agg #[s_.1, s_.2.1], .bool t580]), (70, .agg #[s_.1, s_.2.1]), (71, .bool t580)]) (fun s_ w' => (w'.cell? ⟨gb569, 0, none⟩ = some (.slice Ao41 t565.length co41) ∧ w'.cell? (ad573.add ((x11_2).toNat * 2)) = some (.slice A573_0 ((rd_T40 t570 x11_2).f0).length c573_0) ∧ w'.cell? ⟨(ad573.add ((x11_2).toNat * 2)).block, (ad573.add ((x11_2).toNat * 2)).off + 1, none⟩ = some (.slice A573_1 ((rd_T40 t570 x11_2).f1).length c573_1)) ∧ (Kd.V (Kd.int .i64) 3 w' w.heap.size (fun k_ => some k_ ≠ (s_.1 : Value).ownBlock ∧ some k_ ≠ (s_.2.1 : Value).ownBlock ∧ some k_ ≠ (.slice (some ad573) t570.length co76 : Value).ownBlock ∧ some k_ ≠ (.slice Ao10 t547.length co10 : Value).ownBlock ∧ some k_ ≠ (.slice Ao12 t550.length co12 : Value).ownBlock ∧ some k_ ≠ (.slice Ao15 t555.length co15 : Value).ownBlock ∧ some k_ ≠ (.slice Ao18 t558.length co18 : Value).ownBlock ∧ k_ ≠ gb554 ∧ k_ ≠ gb562 ∧ k_ ≠ gb569 ∧ k_ ≠ s_.2.2) (.slice A573_0 ((rd_T40 t570 x11_2).f0).length c573_0) ((rd_T40 t570 x11_2).f0)) ∧ (Kd.V (Kd.slice 3 (Kd.int .i64)) 24 w' w.heap.size (fun k_ => some k_ ≠ (s_.1 : Value).ownBlock ∧ some k_ ≠ (s_.2.1 : Value).ownBlock ∧ some k_ ≠ (.slice (some ad573) t570.length co76 : Value).ownBlock ∧ some k_ ≠ (.slice Ao10 t547.length co10 : Value).ownBlock ∧ some k_ ≠ (.slice Ao12 t550.length co12 : Value).ownBlock ∧ some k_ ≠ (.slice Ao15 t555.length co15 : Value).ownBlock ∧ some k_ ≠ (.slice Ao18 t558.length co18 : Value).ownBlock ∧ k_ ≠ gb554 ∧ k_ ≠ gb562 ∧ k_ ≠ gb569 ∧ k_ ≠ s_.2.2) (.slice A573_1 ((rd_T40 t570 x11_2).f1).length c573_1) ((rd_T40 t570 x11_2).f1)) ∧ (Kd.R (Kd.int .i64) 3 w' w.heap.size (fun k_ => some k_ ≠ (s_.2.1 : Value).ownBlock ∧ some k_ ≠ (.slice Ao10 t547.length co10 : Value).ownBlock ∧ some k_ ≠ (.slice Ao12 t550.length co12 : Value).ownBlock ∧ some k_ ≠ (.slice Ao15 t555.length co15 : Value).ownBlock ∧ some k_ ≠ (.slice Ao18 t558.length co18 : Value).ownBlock) s_.1 t574) ∧ (Kd.R (Kd.int .i64) 3 w' w.heap.size (fun k_ => some k_ ≠ (s_.1 : Value).ownBlock ∧ some k_ ≠ (.slice Ao10 t547.length co10 : Value).ownBlock ∧ some k_ ≠ (.slice Ao12 t550.length co12 : Value).ownBlock ∧ some k_ ≠ (.slice Ao15 t555.length co15 : Value).ownBlock ∧ some k_ ≠ (.slice Ao18 t558.length co18 : Value).ownBlock) s_.2.1 t577) ∧ (Kd.N k40 40 w' w.heap.size (fun k_ => some k_ ≠ (s_.1 : Value).ownBlock ∧ some k_ ≠ (s_.2.1 : Value).ownBlock ∧ some k_ ≠ (.slice Ao10 t547.length co10 : Value).ownBlock ∧ some k_ ≠ (.slice Ao12 t550.length co12 : Value).ownBlock ∧ some k_ ≠ (.slice Ao15 t555.length co15 : Value).ownBlock ∧ some k_ ≠ (.slice Ao18 t558.length co18 : Value).ownBlock ∧ k_ ≠ gb554 ∧ k_ ≠ gb562 ∧ k_ ≠ gb569 ∧ k_ ≠ s_.2.2) (.slice (some ad573) t570.length co76) t570) ∧ (Kd.R (Kd.int .i64) 3 w' w.heap.size (fun k_ => some k_ ≠ (s_.1 : Value).ownBlock ∧ some k_ ≠ (s_.2.1 : Value).ownBlock ∧ some k_ ≠ (.slice Ao12 t550.length co12 : Value).ownBlock ∧ some k_ ≠ (.slice Ao15 t555.length co15 : Value).ownBlock ∧ some k_ ≠ (.slice Ao18 t558.length co18 : Value).ownBlock) (.slice Ao10 t547.length co10) t547) ∧ (Kd.R (Kd.int .i64) 3 w' w.heap.size (fun k_ => some k_ ≠ (s_.1 : Value).ownBlock ∧ some k_ ≠ (s_.2.1 : Value).ownBlock ∧ some k_ ≠ (.slice Ao10 t547.length co10 : Value).ownBlock ∧ some k_ ≠ (.slice Ao15 t555.length co15 : Value).ownBlock ∧ some k_ ≠ (.slice Ao18 t558.length co18 : Value).ownBlock) (.slice Ao12 t550.length co12) t550) ∧ (Kd.R (Kd.int .i64) 3 w' w.heap.size (fun k_ => some k_ ≠ (s_.1 : Value).ownBlock ∧ some k_ ≠ (s_.2.1 : Value).ownBlock ∧ some k_ ≠ (.slice Ao10 t547.length co10 : Value).ownBlock ∧ some k_ ≠ (.slice Ao12 t550.length co12 : Value).ownBlock ∧ some k_ ≠ (.slice Ao18 t558.length co18 : Value).ownBlock) (.slice Ao15 t555.length co15) t555) ∧ (Kd.R (Kd.int .i64) 3 w' w.heap.size (fun k_ => some k_ ≠ (s_.1 : Value).ownBlock ∧ some k_ ≠ (s_.2.1 : Value).ownBlock ∧ some k_ ≠ (.slice Ao10 t547.length co10 : Value).ownBlock ∧ some k_ ≠ (.slice Ao12 t550.length co12 : Value).ownBlock ∧ some k_ ≠ (.slice Ao15 t555.length co15 : Value).ownBlock) (.slice Ao18 t558.length co18) t558) ∧ (Kd.N (Kd.slice 70 k70) 55 w' w.heap.size (fun k_ => some k_ ≠ (s_.1 : Value).ownBlock ∧ some k_ ≠ (s_.2.1 : Value).ownBlock ∧ some k_ ≠ (.slice (some ad573) t570.length co76 : Value).ownBlock ∧ some k_ ≠ (.slice Ao10 t547.length co10 : Value).ownBlock ∧ some k_ ≠ (.slice Ao12 t550.length co12 : Value).ownBlock ∧ some k_ ≠ (.slice Ao15 t555.length co15 : Value).ownBlock ∧ some k_ ≠ (.slice Ao18 t558.length co18 : Value).ownBlock ∧ k_ ≠ gb554 ∧ k_ ≠ gb562 ∧ k_ ≠ gb569 ∧ k_ ≠ s_.2.2) (.slice Ao41 t565.length co41) t565) ∧ (w'.heap[gb554]? = some (.cells #[.slice Ao10 t547.length co10, .slice Ao12 t550.length co12] 26 (0, 0))) ∧ (w'.heap[gb562]? = some (.cells #[.slice Ao15 t555.length co15, .slice Ao18 t558.length co18] 26 (0, 0))) ∧ (w'.heap[gb569]? = some (.cells #[.slice Ao41 t565.length co41] 32 (0, 0))) ∧ (w'.heap[s_.2.2]? = some (.cells #[.slice none 0 0, .slice none 0 0] 26 (0, 0))) ∧ (w.heap.size ≤ s_.2.2) ∧ (w.heap.size ≤ s_.2.2) ∧ (gb554 ≠ s_.2.2) ∧ (s_.2.2 ≠ gb554) ∧ (gb562 ≠ s_.2.2) ∧ (s_.2.2 ≠ gb562) ∧ (gb569 ≠ s_.2.2) ∧ (s_.2.2 ≠ gb569) ∧ (Below w.heap.size w w')) ?_ ?_
        rotate_left
        ·intro hCont
         refine two_ (i := 5) (j := 9) (Ni := some 69) (Nj := some 12) #[true, true, true, true, true, true, false, false, false, false, false, false] #[true, true, true, true, true, false, false, false, false, true, false, false] rfl rfl rfl rfl (two_of HT_.out (by kernel_rfl)) (by decide) (by decide) (fun K hK => ?_) (fun K hK => ?_)
         ·skip
          refine goes_ Try.func10 (by kernel_rfl) rfl #[.agg #[.slice Ao41 t565.length co41], .agg #[.slice A573_0 ((rd_T40 t570 x11_2).f0).length c573_0, .slice A573_1 ((rd_T40 t570 x11_2).f1).length c573_1]] (by rfl) rfl rfl (by (try simp only [List.map_toArray, List.map_cons, List.map_nil]); first | done | rfl | (simp only [List.length_drop, List.length_take]; rfl)) ?_
          with_reducible refine (impl_ExecSeen.calls k2 _ _ t565 _ _ ((rd_T40 t570 x11_2).f0) _ _ ((rd_T40 t570 x11_2).f1) t574 t577 t580 _ ?side1 ?side2 ?side3 ?side4 ?side5 ?side6 A50.out).mono ?_
          (case side1 => repeat (first | exact (Kd.N_reads' HO_04.out).2.2 | (with_reducible refine Kd.C_alloc ?_ _) | (with_reducible refine Kd.C_drewN ?_ _) | (with_reducible refine Kd.C_drew ?_)))
          (case side2 => exact (Kd.N_reads' HO_04.out).2.1)
          (case side3 => repeat (first | exact z3_7 | (with_reducible refine Kd.C_alloc ?_ _) | (with_reducible refine Kd.C_drewN ?_ _) | (with_reducible refine Kd.C_drew ?_)))
          (case side4 => exact HC573_0.out)
          (case side5 => repeat (first | exact z3_8 | (with_reducible refine Kd.C_alloc ?_ _) | (with_reducible refine Kd.C_drewN ?_ _) | (with_reducible refine Kd.C_drew ?_)))
          (case side6 => exact HC573_1.out)
          rintro e w78 ⟨v575, v578, rfl, ho0, ho1, hb⟩
          have HS1_ := (hb.cell (World.block_lt_of_cell? _ _ (hHeld.2.1))).trans (hHeld.2.1)
          have HS2_ := (hb.cell (World.block_lt_of_cell? _ _ (hHeld.2.2))).trans (hHeld.2.2)
          refine ⟨_, rfl, ?_⟩
          have n0_ := am_ (Kd.N_mono (Kd.N_told (Kd.N_told (Kd.N_old (nu HO_10.out) hb) (Kd.R_base ho0)) (Kd.R_base ho1)) (fun _ h_ => h_.1))
          have n1_ := am_ (Kd.R_mono (Kd.R_told (Kd.R_told (Kd.R_old (ru HO_02.out) hb) (Kd.R_base ho0)) (Kd.R_base ho1)) (fun _ h_ => h_.1))
          have n2_ := am_ (Kd.R_mono (Kd.R_told (Kd.R_told (Kd.R_old (ru HO_03.out) hb) (Kd.R_base ho0)) (Kd.R_base ho1)) (fun _ h_ => h_.1))
          have n3_ := am_ (Kd.R_mono (Kd.R_told (Kd.R_told (Kd.R_old (ru HO_00.out) hb) (Kd.R_base ho0)) (Kd.R_base ho1)) (fun _ h_ => h_.1))
          have n4_ := am_ (Kd.R_mono (Kd.R_told (Kd.R_told (Kd.R_old (ru HO_01.out) hb) (Kd.R_base ho0)) (Kd.R_base ho1)) (fun _ h_ => h_.1))
          have n5_ := am_ (Kd.N_mono (Kd.N_told (Kd.N_told (Kd.N_old (nu HO_04.out) hb) (Kd.R_base ho0)) (Kd.R_base ho1)) (fun _ h_ => h_.1))
          have n6_ := am_ (Kd.V_mono (Kd.V_told (Kd.V_told (Kd.V_old (vu HL573_0.out) hb) (Kd.R_base ho0)) (Kd.R_base ho1)) (fun _ h_ => h_.1))
          have n7_ := am_ (Kd.V_mono (Kd.V_told (Kd.V_told (Kd.V_old (vu HL573_1.out) hb) (Kd.R_base ho0)) (Kd.R_base ho1)) (fun _ h_ => h_.1))
          have n8_ := am_ (Kd.R_lower (Kd.R_new' (Kd.R_new' (Kd.R_new' (Kd.R_new' ho0 (Kd.R_lt (ru HO_02.out))) (Kd.R_lt (ru HO_03.out))) (Kd.R_lt (ru HO_00.out))) (Kd.R_lt (ru HO_01.out))) (below_size z3_10))
          have n9_ := am_ (Kd.R_lower (Kd.R_new' (Kd.R_new' (Kd.R_new' (Kd.R_new' ho1 (Kd.R_lt (ru HO_02.out))) (Kd.R_lt (ru HO_03.out))) (Kd.R_lt (ru HO_00.out))) (Kd.R_lt (ru HO_01.out))) (below_size z3_10))
          have n10_ := am_ (blk_below (bu BK554.out) hb)
          have n11_ := am_ (blk_below (bu BK562.out) hb)
          have n12_ := am_ (blk_below (bu BK569.out) hb)
          have n13_ := am_ (Kd.C_below z3_7 hb)
          have n14_ := am_ (Kd.C_below z3_8 hb)
          have n15_ := am_ (below_step z3_10 hb)
          clear HO_10 HO_02 HO_03 HO_00 HO_01 HO_04 HL573_0 HL573_1 BK554 BK562 BK569 HR573_0 HR573_1 HB
          have HO_10 := n0_
          have HO_02 := n1_
          have HO_03 := n2_
          have HO_00 := n3_
          have HO_01 := n4_
          have HO_04 := n5_
          have HL573_0 := n6_
          have HL573_1 := n7_
          have HO576 := n8_
          have HO579 := n9_
          have BK554 := n10_
          have BK562 := n11_
          have BK569 := n12_
          have HR573_0 := n13_
          have HR573_1 := n14_
          have HB := n15_
          clear n0_ n1_ n2_ n3_ n4_ n5_ n6_ n7_ n8_ n9_ n10_ n11_ n12_ n13_ n14_ n15_
          (try clear hb)
          (try clear hb2)
          (try clear hk)
          (try clear hi)
          (try clear ho0)
          (try clear ho1)
          refine hK.out _ _ ⟨(blk_cell BK569.out 0).trans rfl, HS1_, HS2_⟩ (fun hHeld => ?_)
          clear hK K
          refine norm_ (a' := ?_) ?_ ?_
          rotate_left
          ·show Act.put _ (some 69) _ = _
           simp only [Act.put, List.setIfInBounds_toArray, List.set_cons_zero, List.set_cons_succ, i64_w, i32_w]
           rfl
          refine pure_ (i := 6) (N := some 63) (v := ?_) (a' := ?_) #[true, true, true, true, true, true, true, false, false, false, false, false] rfl rfl (any_of HT_.out (by kernel_rfl)) (fun _ _ _ h => h) (Or.inl ⟨by rfl, ?_⟩) ?_ ?_
          rotate_left
          ·intro w'
           go_simp
           with_reducible rfl
          rotate_left
          ·simp only [Act.put, List.setIfInBounds_toArray, List.set_cons_zero, List.set_cons_succ, i64_w, i32_w]
           rfl
          refine pure_ (i := 7) (N := some 70) (v := ?_) (a' := ?_) #[true, true, true, true, true, true, true, true, false, false, false, false] rfl rfl (any_of HT_.out (by kernel_rfl)) (fun _ _ _ h => h) (Or.inl ⟨by rfl, ?_⟩) ?_ ?_
          rotate_left
          ·intro w'
           go_simp
           with_reducible rfl
          rotate_left
          ·simp only [Act.put, List.setIfInBounds_toArray, List.set_cons_zero, List.set_cons_succ, i64_w, i32_w]
           rfl
          refine pure_ (i := 8) (N := some 71) (v := ?_) (a' := ?_) #[true, true, true, true, true, true, true, true, true, false, false, false] rfl rfl (any_of HT_.out (by kernel_rfl)) (fun _ _ _ h => h) (Or.inl ⟨by rfl, ?_⟩) ?_ ?_
          rotate_left
          ·intro w'
           go_simp
           with_reducible rfl
          rotate_left
          ·simp only [Act.put, List.setIfInBounds_toArray, List.set_cons_zero, List.set_cons_succ, i64_w, i32_w]
           rfl
          refine one_ (i := 9) (N := some 12) #[true, true, true, true, true, true, true, true, true, true, false, false] rfl rfl (one_of HT_.out (by kernel_rfl)) (by decide) (fun K hK => ?_)
          refine box_step ?hg (N := 12) ?hd (cs := #[.slice none 0 0, .slice none 0 0]) (t := 26) ?hr ?_; (case hd => rfl); (case hg => rfl); (case hr => first | (go_simp; done) | (go_simp; rfl))
          intro gb581 hg w79 hbox hb
          have HS1_ := (hb.cell (World.block_lt_of_cell? _ _ (hHeld.2.1))).trans (hHeld.2.1)
          have HS2_ := (hb.cell (World.block_lt_of_cell? _ _ (hHeld.2.2))).trans (hHeld.2.2)
          have n0_ := am_ (Kd.N_below (Kd.N_elderB (nu HO_10.out) gb581 (Nat.le_of_eq hg.symm)) hb)
          have n1_ := am_ (Kd.R_below (ru HO_02.out) hb)
          have n2_ := am_ (Kd.R_below (ru HO_03.out) hb)
          have n3_ := am_ (Kd.R_below (ru HO_00.out) hb)
          have n4_ := am_ (Kd.R_below (ru HO_01.out) hb)
          have n5_ := am_ (Kd.N_below (Kd.N_elderB (nu HO_04.out) gb581 (Nat.le_of_eq hg.symm)) hb)
          have n6_ := am_ (Kd.V_below (Kd.V_elderB (vu HL573_0.out) gb581 (Nat.le_of_eq hg.symm)) hb)
          have n7_ := am_ (Kd.V_below (Kd.V_elderB (vu HL573_1.out) gb581 (Nat.le_of_eq hg.symm)) hb)
          have n8_ := am_ (Kd.R_below (ru HO576.out) hb)
          have n9_ := am_ (Kd.R_below (ru HO579.out) hb)
          have n10_ := am_ (blk_below (bu BK554.out) hb)
          have n11_ := am_ (blk_below (bu BK562.out) hb)
          have n12_ := am_ (blk_below (bu BK569.out) hb)
          have n13_ := am_ (Kd.C_below z3_7 hb)
          have n14_ := am_ (Kd.C_below z3_8 hb)
          have n15_ := am_ (below_step z3_10 hb)
          have n16_ := am_ (hbox)
          have n17_ := am_ ((by rw [hg]; exact (below_size z3_10) : w.heap.size ≤ gb581))
          have n18_ := am_ ((by rw [hg]; exact (below_size z3_10) : w.heap.size ≤ gb581))
          have n19_ := am_ ((by rw [hg]; exact Nat.ne_of_lt (blk_lt (bu BK554.out)) : gb554 ≠ gb581))
          have n20_ := am_ ((by rw [hg]; exact Nat.ne_of_gt (blk_lt (bu BK554.out)) : gb581 ≠ gb554))
          have n21_ := am_ ((by rw [hg]; exact Nat.ne_of_lt (blk_lt (bu BK562.out)) : gb562 ≠ gb581))
          have n22_ := am_ ((by rw [hg]; exact Nat.ne_of_gt (blk_lt (bu BK562.out)) : gb581 ≠ gb562))
          have n23_ := am_ ((by rw [hg]; exact Nat.ne_of_lt (blk_lt (bu BK569.out)) : gb569 ≠ gb581))
          have n24_ := am_ ((by rw [hg]; exact Nat.ne_of_gt (blk_lt (bu BK569.out)) : gb581 ≠ gb569))
          clear HO_10 HO_02 HO_03 HO_00 HO_01 HO_04 HL573_0 HL573_1 HO576 HO579 BK554 BK562 BK569 HR573_0 HR573_1 HB
          have HO_10 := n0_
          have HO_02 := n1_
          have HO_03 := n2_
          have HO_00 := n3_
          have HO_01 := n4_
          have HO_04 := n5_
          have HL573_0 := n6_
          have HL573_1 := n7_
          have HO576 := n8_
          have HO579 := n9_
          have BK554 := n10_
          have BK562 := n11_
          have BK569 := n12_
          have HR573_0 := n13_
          have HR573_1 := n14_
          have HB := n15_
          have BK581 := n16_
          have GW581 := n17_
          have GE581 := n18_
          have NB554_581 := n19_
          have NB581_554 := n20_
          have NB562_581 := n21_
          have NB581_562 := n22_
          have NB569_581 := n23_
          have NB581_569 := n24_
          clear n0_ n1_ n2_ n3_ n4_ n5_ n6_ n7_ n8_ n9_ n10_ n11_ n12_ n13_ n14_ n15_ n16_ n17_ n18_ n19_ n20_ n21_ n22_ n23_ n24_ hb hbox hg
          refine hK.out _ _ ⟨(blk_cell BK569.out 0).trans rfl, HS1_, HS2_⟩ (fun hHeld => ?_)
          clear hK K
          refine norm_ (a' := ?_) ?_ ?_
          rotate_left
          ·show Act.put _ (some 12) _ = _
           simp only [Act.put, List.setIfInBounds_toArray, List.set_cons_zero, List.set_cons_succ, i64_w, i32_w]
           rfl
          exact norm_ z3_4 (hCont (v575, v578, gb581) _ ⟨hHeld, (vu (Kd.V_mono HL573_0.out (fun _ hk => ⟨hk.1.1.2, ⟨hk.1.2, ⟨hk.1.1.1.2, ⟨hk.1.1.1.1.1, ⟨hk.1.1.1.1.2.1, ⟨hk.1.1.1.1.2.2.1, ⟨hk.1.1.1.1.2.2.2.1, ⟨hk.1.1.1.1.2.2.2.2.1, ⟨hk.1.1.1.1.2.2.2.2.2.1, ⟨hk.1.1.1.1.2.2.2.2.2.2, hk.2⟩⟩⟩⟩⟩⟩⟩⟩⟩⟩))), (vu (Kd.V_mono HL573_1.out (fun _ hk => ⟨hk.1.1.2, ⟨hk.1.2, ⟨hk.1.1.1.2, ⟨hk.1.1.1.1.1, ⟨hk.1.1.1.1.2.1, ⟨hk.1.1.1.1.2.2.1, ⟨hk.1.1.1.1.2.2.2.1, ⟨hk.1.1.1.1.2.2.2.2.1, ⟨hk.1.1.1.1.2.2.2.2.2.1, ⟨hk.1.1.1.1.2.2.2.2.2.2, hk.2⟩⟩⟩⟩⟩⟩⟩⟩⟩⟩))), (ru (Kd.R_mono HO576.out (fun _ hk => ⟨hk.1.1.1.1, ⟨hk.1.1.1.2, ⟨hk.1.1.2, ⟨hk.1.2, hk.2⟩⟩⟩⟩))), (ru (Kd.R_mono HO579.out (fun _ hk => ⟨hk.1.1.1.1, ⟨hk.1.1.1.2, ⟨hk.1.1.2, ⟨hk.1.2, hk.2⟩⟩⟩⟩))), (nu (Kd.N_mono HO_10.out (fun _ hk => ⟨hk.1.1.2, ⟨hk.1.2, ⟨hk.1.1.1.1, ⟨hk.1.1.1.2.1, ⟨hk.1.1.1.2.2.1, ⟨hk.1.1.1.2.2.2.1, ⟨hk.1.1.1.2.2.2.2.1, ⟨hk.1.1.1.2.2.2.2.2.1, ⟨hk.1.1.1.2.2.2.2.2.2, hk.2⟩⟩⟩⟩⟩⟩⟩⟩⟩))), (ru (Kd.R_mono HO_02.out (fun _ hk => ⟨hk.1.2, ⟨hk.2, ⟨hk.1.1.1, ⟨hk.1.1.2.1, hk.1.1.2.2⟩⟩⟩⟩))), (ru (Kd.R_mono HO_03.out (fun _ hk => ⟨hk.1.2, ⟨hk.2, ⟨hk.1.1.1, ⟨hk.1.1.2.1, hk.1.1.2.2⟩⟩⟩⟩))), (ru (Kd.R_mono HO_00.out (fun _ hk => ⟨hk.1.2, ⟨hk.2, ⟨hk.1.1.1, ⟨hk.1.1.2.1, hk.1.1.2.2⟩⟩⟩⟩))), (ru (Kd.R_mono HO_01.out (fun _ hk => ⟨hk.1.2, ⟨hk.2, ⟨hk.1.1.1, ⟨hk.1.1.2.1, hk.1.1.2.2⟩⟩⟩⟩))), (nu (Kd.N_mono HO_04.out (fun _ hk => ⟨hk.1.1.2, ⟨hk.1.2, ⟨hk.1.1.1.1, ⟨hk.1.1.1.2.1, ⟨hk.1.1.1.2.2.1, ⟨hk.1.1.1.2.2.2.1, ⟨hk.1.1.1.2.2.2.2.1, ⟨hk.1.1.1.2.2.2.2.2.1, ⟨hk.1.1.1.2.2.2.2.2.2.1, ⟨hk.1.1.1.2.2.2.2.2.2.2, hk.2⟩⟩⟩⟩⟩⟩⟩⟩⟩⟩))), (bu BK554.out), (bu BK562.out), (bu BK569.out), (bu BK581.out), GW581.out, GE581.out, NB554_581.out, NB581_554.out, NB562_581.out, NB581_562.out, NB569_581.out, NB581_569.out, z3_11⟩)
         skip
         refine box_step ?hg (N := 12) ?hd (cs := #[.slice none 0 0, .slice none 0 0]) (t := 26) ?hr ?_; (case hd => rfl); (case hg => rfl); (case hr => first | (go_simp; done) | (go_simp; rfl))
         intro gb581 hg w78 hbox hb
         have HS1_ := (hb.cell (World.block_lt_of_cell? _ _ (hHeld.2.1))).trans (hHeld.2.1)
         have HS2_ := (hb.cell (World.block_lt_of_cell? _ _ (hHeld.2.2))).trans (hHeld.2.2)
         have n0_ := am_ (Kd.N_below (Kd.N_elderB (nu HO_10.out) gb581 (Nat.le_of_eq hg.symm)) hb)
         have n1_ := am_ (Kd.R_below (ru HO_02.out) hb)
         have n2_ := am_ (Kd.R_below (ru HO_03.out) hb)
         have n3_ := am_ (Kd.R_below (ru HO_00.out) hb)
         have n4_ := am_ (Kd.R_below (ru HO_01.out) hb)
         have n5_ := am_ (Kd.N_below (Kd.N_elderB (nu HO_04.out) gb581 (Nat.le_of_eq hg.symm)) hb)
         have n6_ := am_ (Kd.V_below (Kd.V_elderB (vu HL573_0.out) gb581 (Nat.le_of_eq hg.symm)) hb)
         have n7_ := am_ (Kd.V_below (Kd.V_elderB (vu HL573_1.out) gb581 (Nat.le_of_eq hg.symm)) hb)
         have n8_ := am_ (blk_below (bu BK554.out) hb)
         have n9_ := am_ (blk_below (bu BK562.out) hb)
         have n10_ := am_ (blk_below (bu BK569.out) hb)
         have n11_ := am_ (Kd.C_below z3_7 hb)
         have n12_ := am_ (Kd.C_below z3_8 hb)
         have n13_ := am_ (below_step z3_10 hb)
         have n14_ := am_ (hbox)
         have n15_ := am_ ((by rw [hg]; exact (below_size z3_10) : w.heap.size ≤ gb581))
         have n16_ := am_ ((by rw [hg]; exact (below_size z3_10) : w.heap.size ≤ gb581))
         have n17_ := am_ ((by rw [hg]; exact Nat.ne_of_lt (blk_lt (bu BK554.out)) : gb554 ≠ gb581))
         have n18_ := am_ ((by rw [hg]; exact Nat.ne_of_gt (blk_lt (bu BK554.out)) : gb581 ≠ gb554))
         have n19_ := am_ ((by rw [hg]; exact Nat.ne_of_lt (blk_lt (bu BK562.out)) : gb562 ≠ gb581))
         have n20_ := am_ ((by rw [hg]; exact Nat.ne_of_gt (blk_lt (bu BK562.out)) : gb581 ≠ gb562))
         have n21_ := am_ ((by rw [hg]; exact Nat.ne_of_lt (blk_lt (bu BK569.out)) : gb569 ≠ gb581))
         have n22_ := am_ ((by rw [hg]; exact Nat.ne_of_gt (blk_lt (bu BK569.out)) : gb581 ≠ gb569))
         clear HO_10 HO_02 HO_03 HO_00 HO_01 HO_04 HL573_0 HL573_1 BK554 BK562 BK569 HR573_0 HR573_1 HB
         have HO_10 := n0_
         have HO_02 := n1_
         have HO_03 := n2_
         have HO_00 := n3_
         have HO_01 := n4_
         have HO_04 := n5_
         have HL573_0 := n6_
         have HL573_1 := n7_
         have BK554 := n8_
         have BK562 := n9_
         have BK569 := n10_
         have HR573_0 := n11_
         have HR573_1 := n12_
         have HB := n13_
         have BK581 := n14_
         have GW581 := n15_
         have GE581 := n16_
         have NB554_581 := n17_
         have NB581_554 := n18_
         have NB562_581 := n19_
         have NB581_562 := n20_
         have NB569_581 := n21_
         have NB581_569 := n22_
         clear n0_ n1_ n2_ n3_ n4_ n5_ n6_ n7_ n8_ n9_ n10_ n11_ n12_ n13_ n14_ n15_ n16_ n17_ n18_ n19_ n20_ n21_ n22_ hb hbox hg
         refine hK.out _ _ ⟨(blk_cell BK569.out 0).trans rfl, HS1_, HS2_⟩ (fun hHeld => ?_)
         clear hK K
         refine norm_ (a' := ?_) ?_ ?_
         rotate_left
         ·show Act.put _ (some 12) _ = _
          simp only [Act.put, List.setIfInBounds_toArray, List.set_cons_zero, List.set_cons_succ, i64_w, i32_w]
          rfl
         refine one_ (i := 5) (N := some 69) #[true, true, true, true, true, true, false, false, false, true, false, false] rfl rfl (one_of HT_.out (by kernel_rfl)) (by decide) (fun K hK => ?_)
         refine goes_ Try.func10 (by kernel_rfl) rfl #[.agg #[.slice Ao41 t565.length co41], .agg #[.slice A573_0 ((rd_T40 t570 x11_2).f0).length c573_0, .slice A573_1 ((rd_T40 t570 x11_2).f1).length c573_1]] (by rfl) rfl rfl (by (try simp only [List.map_toArray, List.map_cons, List.map_nil]); first | done | rfl | (simp only [List.length_drop, List.length_take]; rfl)) ?_
         with_reducible refine (impl_ExecSeen.calls k2 _ _ t565 _ _ ((rd_T40 t570 x11_2).f0) _ _ ((rd_T40 t570 x11_2).f1) t574 t577 t580 _ ?side1 ?side2 ?side3 ?side4 ?side5 ?side6 A50.out).mono ?_
         (case side1 => repeat (first | exact (Kd.N_reads' HO_04.out).2.2 | (with_reducible refine Kd.C_alloc ?_ _) | (with_reducible refine Kd.C_drewN ?_ _) | (with_reducible refine Kd.C_drew ?_)))
         (case side2 => exact (Kd.N_reads' HO_04.out).2.1)
         (case side3 => repeat (first | exact z3_7 | (with_reducible refine Kd.C_alloc ?_ _) | (with_reducible refine Kd.C_drewN ?_ _) | (with_reducible refine Kd.C_drew ?_)))
         (case side4 => exact HC573_0.out)
         (case side5 => repeat (first | exact z3_8 | (with_reducible refine Kd.C_alloc ?_ _) | (with_reducible refine Kd.C_drewN ?_ _) | (with_reducible refine Kd.C_drew ?_)))
         (case side6 => exact HC573_1.out)
         rintro e w79 ⟨v575, v578, rfl, ho0, ho1, hb⟩
         have HS1_ := (hb.cell (World.block_lt_of_cell? _ _ (hHeld.2.1))).trans (hHeld.2.1)
         have HS2_ := (hb.cell (World.block_lt_of_cell? _ _ (hHeld.2.2))).trans (hHeld.2.2)
         refine ⟨_, rfl, ?_⟩
         have n0_ := am_ (Kd.N_mono (Kd.N_told (Kd.N_told (Kd.N_old (nu HO_10.out) hb) (Kd.R_base ho0)) (Kd.R_base ho1)) (fun _ h_ => h_.1))
         have n1_ := am_ (Kd.R_mono (Kd.R_told (Kd.R_told (Kd.R_old (ru HO_02.out) hb) (Kd.R_base ho0)) (Kd.R_base ho1)) (fun _ h_ => h_.1))
         have n2_ := am_ (Kd.R_mono (Kd.R_told (Kd.R_told (Kd.R_old (ru HO_03.out) hb) (Kd.R_base ho0)) (Kd.R_base ho1)) (fun _ h_ => h_.1))
         have n3_ := am_ (Kd.R_mono (Kd.R_told (Kd.R_told (Kd.R_old (ru HO_00.out) hb) (Kd.R_base ho0)) (Kd.R_base ho1)) (fun _ h_ => h_.1))
         have n4_ := am_ (Kd.R_mono (Kd.R_told (Kd.R_told (Kd.R_old (ru HO_01.out) hb) (Kd.R_base ho0)) (Kd.R_base ho1)) (fun _ h_ => h_.1))
         have n5_ := am_ (Kd.N_mono (Kd.N_told (Kd.N_told (Kd.N_old (nu HO_04.out) hb) (Kd.R_base ho0)) (Kd.R_base ho1)) (fun _ h_ => h_.1))
         have n6_ := am_ (Kd.V_mono (Kd.V_told (Kd.V_told (Kd.V_old (vu HL573_0.out) hb) (Kd.R_base ho0)) (Kd.R_base ho1)) (fun _ h_ => h_.1))
         have n7_ := am_ (Kd.V_mono (Kd.V_told (Kd.V_told (Kd.V_old (vu HL573_1.out) hb) (Kd.R_base ho0)) (Kd.R_base ho1)) (fun _ h_ => h_.1))
         have n8_ := am_ (Kd.R_lower (Kd.R_new' (Kd.R_new' (Kd.R_new' (Kd.R_new' ho0 (Kd.R_lt (ru HO_02.out))) (Kd.R_lt (ru HO_03.out))) (Kd.R_lt (ru HO_00.out))) (Kd.R_lt (ru HO_01.out))) (below_size z3_11))
         have n9_ := am_ (Kd.R_lower (Kd.R_new' (Kd.R_new' (Kd.R_new' (Kd.R_new' ho1 (Kd.R_lt (ru HO_02.out))) (Kd.R_lt (ru HO_03.out))) (Kd.R_lt (ru HO_00.out))) (Kd.R_lt (ru HO_01.out))) (below_size z3_11))
         have n10_ := am_ (blk_below (bu BK554.out) hb)
         have n11_ := am_ (blk_below (bu BK562.out) hb)
         have n12_ := am_ (blk_below (bu BK569.out) hb)
         have n13_ := am_ (Kd.C_below z3_7 hb)
         have n14_ := am_ (Kd.C_below z3_8 hb)
         have n15_ := am_ (blk_below (bu BK581.out) hb)
         have n16_ := am_ (below_step z3_11 hb)
         clear HO_10 HO_02 HO_03 HO_00 HO_01 HO_04 HL573_0 HL573_1 BK554 BK562 BK569 HR573_0 HR573_1 BK581 HB
         have HO_10 := n0_
         have HO_02 := n1_
         have HO_03 := n2_
         have HO_00 := n3_
         have HO_01 := n4_
         have HO_04 := n5_
         have HL573_0 := n6_
         have HL573_1 := n7_
         have HO576 := n8_
         have HO579 := n9_
         have BK554 := n10_
         have BK562 := n11_
         have BK569 := n12_
         have HR573_0 := n13_
         have HR573_1 := n14_
         have BK581 := n15_
         have HB := n16_
         clear n0_ n1_ n2_ n3_ n4_ n5_ n6_ n7_ n8_ n9_ n10_ n11_ n12_ n13_ n14_ n15_ n16_
         (try clear hb)
         (try clear hb2)
         (try clear hk)
         (try clear hi)
         (try clear ho0)
         (try clear ho1)
         refine hK.out _ _ ⟨(blk_cell BK569.out 0).trans rfl, HS1_, HS2_⟩ (fun hHeld => ?_)
         clear hK K
         refine norm_ (a' := ?_) ?_ ?_
         rotate_left
         ·show Act.put _ (some 69) _ = _
          simp only [Act.put, List.setIfInBounds_toArray, List.set_cons_zero, List.set_cons_succ, i64_w, i32_w]
          rfl
         refine pure_ (i := 6) (N := some 63) (v := ?_) (a' := ?_) #[true, true, true, true, true, true, true, false, false, true, false, false] rfl rfl (any_of HT_.out (by kernel_rfl)) (fun _ _ _ h => h) (Or.inl ⟨by rfl, ?_⟩) ?_ ?_
         rotate_left
         ·intro w'
          go_simp
          with_reducible rfl
         rotate_left
         ·simp only [Act.put, List.setIfInBounds_toArray, List.set_cons_zero, List.set_cons_succ, i64_w, i32_w]
          rfl
         refine pure_ (i := 7) (N := some 70) (v := ?_) (a' := ?_) #[true, true, true, true, true, true, true, true, false, true, false, false] rfl rfl (any_of HT_.out (by kernel_rfl)) (fun _ _ _ h => h) (Or.inl ⟨by rfl, ?_⟩) ?_ ?_
         rotate_left
         ·intro w'
          go_simp
          with_reducible rfl
         rotate_left
         ·simp only [Act.put, List.setIfInBounds_toArray, List.set_cons_zero, List.set_cons_succ, i64_w, i32_w]
          rfl
         refine pure_ (i := 8) (N := some 71) (v := ?_) (a' := ?_) #[true, true, true, true, true, true, true, true, true, true, false, false] rfl rfl (any_of HT_.out (by kernel_rfl)) (fun _ _ _ h => h) (Or.inl ⟨by rfl, ?_⟩) ?_ ?_
         rotate_left
         ·intro w'
          go_simp
          with_reducible rfl
         rotate_left
         ·simp only [Act.put, List.setIfInBounds_toArray, List.set_cons_zero, List.set_cons_succ, i64_w, i32_w]
          rfl
         exact norm_ z3_4 (hCont (v575, v578, gb581) _ ⟨hHeld, (vu (Kd.V_mono HL573_0.out (fun _ hk => ⟨hk.1.2, ⟨hk.2, ⟨hk.1.1.1.2, ⟨hk.1.1.1.1.1, ⟨hk.1.1.1.1.2.1, ⟨hk.1.1.1.1.2.2.1, ⟨hk.1.1.1.1.2.2.2.1, ⟨hk.1.1.1.1.2.2.2.2.1, ⟨hk.1.1.1.1.2.2.2.2.2.1, ⟨hk.1.1.1.1.2.2.2.2.2.2, hk.1.1.2⟩⟩⟩⟩⟩⟩⟩⟩⟩⟩))), (vu (Kd.V_mono HL573_1.out (fun _ hk => ⟨hk.1.2, ⟨hk.2, ⟨hk.1.1.1.2, ⟨hk.1.1.1.1.1, ⟨hk.1.1.1.1.2.1, ⟨hk.1.1.1.1.2.2.1, ⟨hk.1.1.1.1.2.2.2.1, ⟨hk.1.1.1.1.2.2.2.2.1, ⟨hk.1.1.1.1.2.2.2.2.2.1, ⟨hk.1.1.1.1.2.2.2.2.2.2, hk.1.1.2⟩⟩⟩⟩⟩⟩⟩⟩⟩⟩))), (ru (Kd.R_mono HO576.out (fun _ hk => ⟨hk.1.1.1.1, ⟨hk.1.1.1.2, ⟨hk.1.1.2, ⟨hk.1.2, hk.2⟩⟩⟩⟩))), (ru (Kd.R_mono HO579.out (fun _ hk => ⟨hk.1.1.1.1, ⟨hk.1.1.1.2, ⟨hk.1.1.2, ⟨hk.1.2, hk.2⟩⟩⟩⟩))), (nu (Kd.N_mono HO_10.out (fun _ hk => ⟨hk.1.2, ⟨hk.2, ⟨hk.1.1.1.1, ⟨hk.1.1.1.2.1, ⟨hk.1.1.1.2.2.1, ⟨hk.1.1.1.2.2.2.1, ⟨hk.1.1.1.2.2.2.2.1, ⟨hk.1.1.1.2.2.2.2.2.1, ⟨hk.1.1.1.2.2.2.2.2.2, hk.1.1.2⟩⟩⟩⟩⟩⟩⟩⟩⟩))), (ru (Kd.R_mono HO_02.out (fun _ hk => ⟨hk.1.2, ⟨hk.2, ⟨hk.1.1.1, ⟨hk.1.1.2.1, hk.1.1.2.2⟩⟩⟩⟩))), (ru (Kd.R_mono HO_03.out (fun _ hk => ⟨hk.1.2, ⟨hk.2, ⟨hk.1.1.1, ⟨hk.1.1.2.1, hk.1.1.2.2⟩⟩⟩⟩))), (ru (Kd.R_mono HO_00.out (fun _ hk => ⟨hk.1.2, ⟨hk.2, ⟨hk.1.1.1, ⟨hk.1.1.2.1, hk.1.1.2.2⟩⟩⟩⟩))), (ru (Kd.R_mono HO_01.out (fun _ hk => ⟨hk.1.2, ⟨hk.2, ⟨hk.1.1.1, ⟨hk.1.1.2.1, hk.1.1.2.2⟩⟩⟩⟩))), (nu (Kd.N_mono HO_04.out (fun _ hk => ⟨hk.1.2, ⟨hk.2, ⟨hk.1.1.1.1, ⟨hk.1.1.1.2.1, ⟨hk.1.1.1.2.2.1, ⟨hk.1.1.1.2.2.2.1, ⟨hk.1.1.1.2.2.2.2.1, ⟨hk.1.1.1.2.2.2.2.2.1, ⟨hk.1.1.1.2.2.2.2.2.2.1, ⟨hk.1.1.1.2.2.2.2.2.2.2, hk.1.1.2⟩⟩⟩⟩⟩⟩⟩⟩⟩⟩))), (bu BK554.out), (bu BK562.out), (bu BK569.out), (bu BK581.out), GW581.out, GE581.out, NB554_581.out, NB581_554.out, NB562_581.out, NB581_562.out, NB569_581.out, NB581_569.out, z3_11⟩)
        rintro ⟨v575, v578, gb581⟩ w80 ⟨hS_, h0_, h1_, h2_, h3_, h4_, h5_, h6_, h7_, h8_, h9_, h10_, h11_, h12_, h13_, h14_, h15_, h16_, h17_, h18_, h19_, h20_, h21_, h22_⟩
        have HL573_0 := am_ h0_
        have HL573_1 := am_ h1_
        have HO576 := am_ h2_
        have HO579 := am_ h3_
        replace HO_10 := am_ h4_
        replace HO_02 := am_ h5_
        replace HO_03 := am_ h6_
        replace HO_00 := am_ h7_
        replace HO_01 := am_ h8_
        replace HO_04 := am_ h9_
        replace BK554 := am_ h10_
        replace BK562 := am_ h11_
        replace BK569 := am_ h12_
        have BK581 := am_ h13_
        have GW581 := am_ h14_
        have GE581 := am_ h15_
        have NB554_581 := am_ h16_
        have NB581_554 := am_ h17_
        have NB562_581 := am_ h18_
        have NB581_562 := am_ h19_
        have NB569_581 := am_ h20_
        have NB581_569 := am_ h21_
        replace HB := am_ h22_
        clear h0_ h1_ h2_ h3_ h4_ h5_ h6_ h7_ h8_ h9_ h10_ h11_ h12_ h13_ h14_ h15_ h16_ h17_ h18_ h19_ h20_ h21_ h22_
        have hHeld : w80.cell? ⟨gb569, 0, none⟩ = some (.slice Ao41 t565.length co41) ∧ w80.cell? (ad573.add ((x11_2).toNat * 2)) = some (.slice A573_0 ((rd_T40 t570 x11_2).f0).length c573_0) ∧ w80.cell? ⟨(ad573.add ((x11_2).toNat * 2)).block, (ad573.add ((x11_2).toNat * 2)).off + 1, none⟩ = some (.slice A573_1 ((rd_T40 t570 x11_2).f1).length c573_1) := hS_
        obtain ⟨Ao81, co81, eo81⟩ := Kd.R_slice HO576.out
        (first | subst eo81 | (injection eo81 with f1_ f2_ f3_; have f4_ := f1_.symm; have f5_ := f3_.symm; clear f1_ f2_ f3_; subst f4_; subst f5_))
        obtain ⟨Ao83, co83, eo83⟩ := Kd.R_slice HO579.out
        (first | subst eo83 | (injection eo83 with f1_ f2_ f3_; have f4_ := f1_.symm; have f5_ := f3_.symm; clear f1_ f2_ f3_; subst f4_; subst f5_))
        refine norm_ (a' := ?_) ?_ ?_
        rotate_left
        ·simp only [putAll, Act.put, List.setIfInBounds_toArray, List.set_cons_zero, List.set_cons_succ]
         rfl
        refine one_ (i := 10) (N := none) #[true, true, true, true, true, true, true, true, true, true, true, false] rfl rfl (one_of HT_.out (by kernel_rfl)) (by decide) (fun K hK => ?_)
        have hs82 : w80.cell? ⟨gb581, 0, none⟩ = some (.slice none 0 0) := (blk_cell BK581.out 0).trans rfl
        have hfs82 := blk_frozen BK581.out 0
        have hns82_0 := NB554_581.out
        have hns82_1 := NB562_581.out
        have hns82_2 := NB569_581.out
        have hms82_0 := NB581_554.out
        have hms82_1 := NB581_562.out
        have hms82_2 := NB581_569.out
        have hs84 : w80.cell? ⟨gb581, 1, none⟩ = some (.slice none 0 0) := (blk_cell BK581.out 1).trans rfl
        have hfs84 := blk_frozen BK581.out 1
        have hns84_0 := NB554_581.out
        have hns84_1 := NB562_581.out
        have hns84_2 := NB569_581.out
        have hms84_0 := NB581_554.out
        have hms84_1 := NB581_562.out
        have hms84_2 := NB581_569.out
        refine skip_ (w1 := ?_) (by rfl) rfl ?_ ?_
        rotate_left
        ·go_simp
         rfl
        refine hK.out _ _ ⟨((cell_far (p := ⟨gb581, _, none⟩) NB569_581.out _).trans (((cell_far (p := ⟨gb581, _, none⟩) NB569_581.out _).trans (hHeld.1)))), ((cell_far (p := ⟨gb581, _, none⟩) z3_12 _).trans (((cell_far (p := ⟨gb581, _, none⟩) z3_12 _).trans (hHeld.2.1)))), ((cell_far (p := ⟨gb581, _, none⟩) z3_12 _).trans (((cell_far (p := ⟨gb581, _, none⟩) z3_12 _).trans (hHeld.2.2))))⟩ (fun hHeld => ?_)
        clear hK K
        refine pure_ (i := 11) (N := some 13) (v := ?_) (a' := ?_) #[true, true, true, true, true, true, true, true, true, true, true, true] rfl rfl (any_of HT_.out (by kernel_rfl)) (fun _ _ _ h => h) (Or.inl ⟨by rfl, ?_⟩) ?_ ?_
        rotate_left
        ·intro w'
         go_simp
         with_reducible rfl
        rotate_left
        ·simp only [Act.put, List.setIfInBounds_toArray, List.set_cons_zero, List.set_cons_succ, i64_w, i32_w]
         rfl
        refine done_ (done_of HT_.out (by kernel_rfl)) ?_
        have hnb85 := NB581_554.out
        have hnc85 := NB554_581.out
        have hnb86 := NB581_562.out
        have hnc86 := NB562_581.out
        have hnb87 := NB581_569.out
        have hnc87 := NB569_581.out
        have hcz88_0 := cf0 BK581.out
        have hcz88_1 := cf1 BK581.out
        have hfz88_0 := blk_frozen BK581.out 0
        have hfz88_1 := blk_frozen BK581.out 1
        have hnb89 := NB562_554.out
        have hnc89 := NB554_562.out
        have hnb90 := NB562_569.out
        have hnc90 := NB569_562.out
        have hcz91_0 := cf0 BK562.out
        have hcz91_1 := cf1 BK562.out
        have hfz91_0 := blk_frozen BK562.out 0
        have hfz91_1 := blk_frozen BK562.out 1
        try go_wp2_with (first | ((with_reducible refine gate_callee (f := 7) rfl ?_); refine goesL_ (some 74) rfl rfl Try.func7 (by kernel_rfl) rfl #[.agg #[.slice Ao81 t574.length co81, .slice Ao83 t577.length co83], .agg #[.slice Ao15 t555.length co15, .slice Ao18 t558.length co18]] rfl (by (try simp only [List.map_toArray, List.map_cons, List.map_nil]); first | done | rfl | (simp only [List.length_drop, List.length_take]; rfl)) ?_; (with_reducible refine (laws_lpSame.calls k2 _ _ t574 _ _ t577 _ _ t555 _ _ t558 true _ ?side1 ?side2 ?side3 ?side4 ?side5 ?side6 ?side7 ?side8 A51.out).mono ?_); (case side1 => refine (Kd.R_reads' (e := 3) (base := w.heap.size) (ok := fun k_ => (some k_ ≠ (.slice Ao83 t577.length co83 : Value).ownBlock ∧ (some k_ ≠ (.slice Ao10 t547.length co10 : Value).ownBlock ∧ (some k_ ≠ (.slice Ao12 t550.length co12 : Value).ownBlock ∧ (some k_ ≠ (.slice Ao15 t555.length co15 : Value).ownBlock ∧ some k_ ≠ (.slice Ao18 t558.length co18 : Value).ownBlock))))) (n := t574.length) (c := co81) ?_).2.2; exact (ru (Kd.R_mono (Kd.R_far (p := ⟨gb581, 1, none⟩) (Kd.R_far (p := ⟨gb581, 0, none⟩) (Kd.R_types HO576.out BK581.out (by decide)) (fun _ hk => hk.2) (.slice Ao81 t574.length co81)) (fun _ hk => hk.2) (.slice Ao83 t577.length co83)) (fun _ h_ => h_.1)))); (case side2 => exact (Kd.R_reads' HO576.out).2.1); (case side3 => refine (Kd.R_reads' (e := 3) (base := w.heap.size) (ok := fun k_ => (some k_ ≠ (.slice Ao81 t574.length co81 : Value).ownBlock ∧ (some k_ ≠ (.slice Ao10 t547.length co10 : Value).ownBlock ∧ (some k_ ≠ (.slice Ao12 t550.length co12 : Value).ownBlock ∧ (some k_ ≠ (.slice Ao15 t555.length co15 : Value).ownBlock ∧ some k_ ≠ (.slice Ao18 t558.length co18 : Value).ownBlock))))) (n := t577.length) (c := co83) ?_).2.2; exact (ru (Kd.R_mono (Kd.R_far (p := ⟨gb581, 1, none⟩) (Kd.R_far (p := ⟨gb581, 0, none⟩) (Kd.R_types HO579.out BK581.out (by decide)) (fun _ hk => hk.2) (.slice Ao81 t574.length co81)) (fun _ hk => hk.2) (.slice Ao83 t577.length co83)) (fun _ h_ => h_.1)))); (case side4 => exact (Kd.R_reads' HO579.out).2.1); (case side5 => refine (Kd.R_reads' (e := 3) (base := w.heap.size) (ok := fun k_ => (some k_ ≠ (.slice Ao81 t574.length co81 : Value).ownBlock ∧ (some k_ ≠ (.slice Ao83 t577.length co83 : Value).ownBlock ∧ (some k_ ≠ (.slice Ao10 t547.length co10 : Value).ownBlock ∧ (some k_ ≠ (.slice Ao12 t550.length co12 : Value).ownBlock ∧ some k_ ≠ (.slice Ao18 t558.length co18 : Value).ownBlock))))) (n := t555.length) (c := co15) ?_).2.2; exact (ru (Kd.R_mono (Kd.R_far (p := ⟨gb581, 1, none⟩) (Kd.R_far (p := ⟨gb581, 0, none⟩) (Kd.R_types HO_00.out BK581.out (by decide)) (fun _ hk => hk.2) (.slice Ao81 t574.length co81)) (fun _ hk => hk.2) (.slice Ao83 t577.length co83)) (fun _ h_ => h_.1)))); (case side6 => exact (Kd.R_reads' HO_00.out).2.1); (case side7 => refine (Kd.R_reads' (e := 3) (base := w.heap.size) (ok := fun k_ => (some k_ ≠ (.slice Ao81 t574.length co81 : Value).ownBlock ∧ (some k_ ≠ (.slice Ao83 t577.length co83 : Value).ownBlock ∧ (some k_ ≠ (.slice Ao10 t547.length co10 : Value).ownBlock ∧ (some k_ ≠ (.slice Ao12 t550.length co12 : Value).ownBlock ∧ some k_ ≠ (.slice Ao15 t555.length co15 : Value).ownBlock))))) (n := t558.length) (c := co18) ?_).2.2; exact (ru (Kd.R_mono (Kd.R_far (p := ⟨gb581, 1, none⟩) (Kd.R_far (p := ⟨gb581, 0, none⟩) (Kd.R_types HO_01.out BK581.out (by decide)) (fun _ hk => hk.2) (.slice Ao81 t574.length co81)) (fun _ hk => hk.2) (.slice Ao83 t577.length co83)) (fun _ h_ => h_.1)))); (case side8 => exact (Kd.R_reads' HO_01.out).2.1); rintro e w92 ⟨rfl, hb⟩; refine ⟨_, rfl, ?_⟩; replace HO_10 := am_ (Kd.N_below (nu (Kd.N_mono (Kd.N_far (p := ⟨gb581, 1, none⟩) (Kd.N_far (p := ⟨gb581, 0, none⟩) (Kd.N_mono HO_10.out (fun k_ hk => (⟨hk, hk.2.2.2.2.2.2.2.2.2⟩ : _ ∧ k_ ≠ gb581))) (fun _ hk => hk.2) (.slice Ao81 t574.length co81)) (fun _ hk => hk.2) (.slice Ao83 t577.length co83)) (fun _ h_ => h_.1))) hb); replace HO_02 := am_ (Kd.R_below (ru (Kd.R_mono (Kd.R_far (p := ⟨gb581, 1, none⟩) (Kd.R_far (p := ⟨gb581, 0, none⟩) (Kd.R_types HO_02.out BK581.out (by decide)) (fun _ hk => hk.2) (.slice Ao81 t574.length co81)) (fun _ hk => hk.2) (.slice Ao83 t577.length co83)) (fun _ h_ => h_.1))) hb); replace HO_03 := am_ (Kd.R_below (ru (Kd.R_mono (Kd.R_far (p := ⟨gb581, 1, none⟩) (Kd.R_far (p := ⟨gb581, 0, none⟩) (Kd.R_types HO_03.out BK581.out (by decide)) (fun _ hk => hk.2) (.slice Ao81 t574.length co81)) (fun _ hk => hk.2) (.slice Ao83 t577.length co83)) (fun _ h_ => h_.1))) hb); replace HO_00 := am_ (Kd.R_below (ru (Kd.R_mono (Kd.R_far (p := ⟨gb581, 1, none⟩) (Kd.R_far (p := ⟨gb581, 0, none⟩) (Kd.R_types HO_00.out BK581.out (by decide)) (fun _ hk => hk.2) (.slice Ao81 t574.length co81)) (fun _ hk => hk.2) (.slice Ao83 t577.length co83)) (fun _ h_ => h_.1))) hb); replace HO_01 := am_ (Kd.R_below (ru (Kd.R_mono (Kd.R_far (p := ⟨gb581, 1, none⟩) (Kd.R_far (p := ⟨gb581, 0, none⟩) (Kd.R_types HO_01.out BK581.out (by decide)) (fun _ hk => hk.2) (.slice Ao81 t574.length co81)) (fun _ hk => hk.2) (.slice Ao83 t577.length co83)) (fun _ h_ => h_.1))) hb); replace HO_04 := am_ (Kd.N_below (nu (Kd.N_mono (Kd.N_far (p := ⟨gb581, 1, none⟩) (Kd.N_far (p := ⟨gb581, 0, none⟩) (Kd.N_mono HO_04.out (fun k_ hk => (⟨hk, hk.2.2.2.2.2.2.2.2.2.2⟩ : _ ∧ k_ ≠ gb581))) (fun _ hk => hk.2) (.slice Ao81 t574.length co81)) (fun _ hk => hk.2) (.slice Ao83 t577.length co83)) (fun _ h_ => h_.1))) hb); replace HL573_0 := am_ (Kd.V_below (vu (Kd.V_mono (Kd.V_far (p := ⟨gb581, 1, none⟩) (Kd.V_far (p := ⟨gb581, 0, none⟩) (Kd.V_mono HL573_0.out (fun k_ hk => (⟨hk, hk.2.2.2.2.2.2.2.2.2.2⟩ : _ ∧ k_ ≠ gb581))) (fun _ hk => hk.2) (.slice Ao81 t574.length co81)) (fun _ hk => hk.2) (.slice Ao83 t577.length co83)) (fun _ h_ => h_.1))) hb); replace HL573_1 := am_ (Kd.V_below (vu (Kd.V_mono (Kd.V_far (p := ⟨gb581, 1, none⟩) (Kd.V_far (p := ⟨gb581, 0, none⟩) (Kd.V_mono HL573_1.out (fun k_ hk => (⟨hk, hk.2.2.2.2.2.2.2.2.2.2⟩ : _ ∧ k_ ≠ gb581))) (fun _ hk => hk.2) (.slice Ao81 t574.length co81)) (fun _ hk => hk.2) (.slice Ao83 t577.length co83)) (fun _ h_ => h_.1))) hb); replace HO576 := am_ (Kd.R_below (ru (Kd.R_mono (Kd.R_far (p := ⟨gb581, 1, none⟩) (Kd.R_far (p := ⟨gb581, 0, none⟩) (Kd.R_types HO576.out BK581.out (by decide)) (fun _ hk => hk.2) (.slice Ao81 t574.length co81)) (fun _ hk => hk.2) (.slice Ao83 t577.length co83)) (fun _ h_ => h_.1))) hb); replace HO579 := am_ (Kd.R_below (ru (Kd.R_mono (Kd.R_far (p := ⟨gb581, 1, none⟩) (Kd.R_far (p := ⟨gb581, 0, none⟩) (Kd.R_types HO579.out BK581.out (by decide)) (fun _ hk => hk.2) (.slice Ao81 t574.length co81)) (fun _ hk => hk.2) (.slice Ao83 t577.length co83)) (fun _ h_ => h_.1))) hb); replace BK554 := am_ (blk_below (g := gb554) (o := .cells #[.slice Ao10 t547.length co10, .slice Ao12 t550.length co12] 26 (0, 0)) z3_14 hb); replace BK562 := am_ (blk_below (g := gb562) (o := .cells #[.slice Ao15 t555.length co15, .slice Ao18 t558.length co18] 26 (0, 0)) z3_15 hb); replace BK569 := am_ (blk_below (g := gb569) (o := .cells #[.slice Ao41 t565.length co41] 32 (0, 0)) z3_16 hb); replace BK581 := am_ (blk_below (g := gb581) (o := .cells #[.slice Ao81 t574.length co81, .slice Ao83 t577.length co83] 26 (0, 0)) (by (with_reducible repeat (first | refine blk_drewN ?_ _ | refine blk_drew ?_ | refine blk_alloc ?_ _)); refine blk_put (cs := #[.slice Ao81 t574.length co81, .slice none 0 0]) ?_ 1 _ rfl; (with_reducible repeat (first | refine blk_drewN ?_ _ | refine blk_drew ?_ | refine blk_alloc ?_ _)); refine blk_put (cs := #[.slice none 0 0, .slice none 0 0]) ?_ 0 _ rfl; (with_reducible repeat (first | refine blk_drewN ?_ _ | refine blk_drew ?_ | refine blk_alloc ?_ _)); exact BK581.out) hb); replace HB := am_ (below_step z3_11 hb); (try clear hb); (try clear hb2); (try clear hk); (try clear hi)))
        go_ret
        exact ⟨z3_3, z3_11⟩
       replace c52 := Bool.eq_false_iff.mpr c52
       subst c52
       have H1 : (laws_FnShapeOdd.l0 k2 t568 t570 (wrap64 (x11_2 + 1)) t555 t558 t565) = some r := by rw [if_neg (show ¬ (false = true) by decide)] at H; exact H
       clear H
       have H := H1
       clear H1
       have H' := am_ H
       clear H
       obtain ⟨Ao93, co93, eo93⟩ := Kd.N_slice HO_10.out
       subst eo93
       try go_wp2
       replace HO_10 := am_ (Kd.N_drew HO_10.out)
       replace HO_02 := am_ (Kd.R_drew HO_02.out)
       replace HO_03 := am_ (Kd.R_drew HO_03.out)
       replace HO_00 := am_ (Kd.R_drew HO_00.out)
       replace HO_01 := am_ (Kd.R_drew HO_01.out)
       replace HO_04 := am_ (Kd.N_drew HO_04.out)
       replace BK554 := am_ (blk_drew BK554.out)
       replace BK562 := am_ (blk_drew BK562.out)
       replace BK569 := am_ (blk_drew BK569.out)
       replace HB := am_ (below_drew1 HB.out)
       have p573 : 0 ≤ (x11_2 : Int) := of_decide_eq_true z3_2
       have q573 : x11_2 < (t570.length : Int) := of_decide_eq_true z3_2
       obtain ⟨ad573, A573_0, c573_0, A573_1, c573_1, e573, hx573_0, hx573_1, hl573_0, hi573_0, hl573_1, hi573_1⟩ := at_T40 (Kd.N_reads' HO_10.out).2.2 x11_2 p573 q573
       cases e573
       obtain ⟨ce573, hce573, hMe573, hcc573⟩ := Kd.N_get HO_10.out z40 x11_2 p573 z3_18
       obtain ⟨ua573_0, uc573_0, ua573_1, uc573_1, rfl, ul573_0, ge573_0, ul573_1, ge573_1⟩ := k40_openF hMe573
       have hv573_0 := hcc573 0 _ rfl
       rw [Nat.add_zero] at hv573_0
       replace hv573_0 := Option.some.inj (hv573_0.symm.trans hx573_0)
       injection hv573_0 with hva_ hvn_ hvc_
       rw [hva_] at ge573_0
       rw [hvc_] at ul573_0
       have HL573_0 := am_ (show Kd.V (Kd.int .i64) 3 _ w.heap.size _ _ ((rd_T40 t570 x11_2).f0) from Kd.V_mk ul573_0 ge573_0)
       clear hva_ hvn_ hvc_ ge573_0 ul573_0
       have hv573_1 := hcc573 1 _ rfl
       rw [add_field _ _ 1 (by omega)] at hv573_1
       replace hv573_1 := Option.some.inj (hv573_1.symm.trans hx573_1)
       injection hv573_1 with hva_ hvn_ hvc_
       rw [hva_] at ge573_1
       rw [hvc_] at ul573_1
       have HL573_1 := am_ (show Kd.V (Kd.slice 3 (Kd.int .i64)) 24 _ w.heap.size _ _ ((rd_T40 t570 x11_2).f1) from Kd.V_mk ul573_1 ge573_1)
       clear hva_ hvn_ hvc_ ge573_1 ul573_1 hcc573 hce573
       have HR573_0 := am_ hi573_0
       have HC573_0 := am_ hl573_0
       clear hi573_0 hl573_0
       have HR573_1 := am_ hi573_1
       have HC573_1 := am_ hl573_1
       clear hi573_1 hl573_1
       replace p573 := eq_true p573
       replace q573 := eq_true q573
       refine start_ (n := 12) (S := fun w' => w'.cell? ⟨gb569, 0, none⟩ = some (.slice Ao41 t565.length co41) ∧ w'.cell? (ad573.add ((x11_2).toNat * 2)) = some (.slice A573_0 ((rd_T40 t570 x11_2).f0).length c573_0) ∧ w'.cell? ⟨(ad573.add ((x11_2).toNat * 2)).block, (ad573.add ((x11_2).toNat * 2)).off + 1, none⟩ = some (.slice A573_1 ((rd_T40 t570 x11_2).f1).length c573_1)) (ds := []) #[false, false, false, false, false, false, false, false, false, false, false, false] (by kernel_rfl) rfl rfl ⟨(blk_cell BK569.out 0).trans rfl, hx573_0, hx573_1⟩ (fun hHeld => ?_); refine with_tabW laws_FnShapeOdd.tab13 laws_FnShapeOdd.bits13 (fun HT_ HW_ => ?_)
       generalize wr.drew = w94 at HO_10 HO_02 HO_03 HO_00 HO_01 HO_04 BK554 BK562 BK569 HB HL573_0 HL573_1 HR573_0 HR573_1 hx573_0 hx573_1 hHeld ⊢
       refine pure_ (i := 1) (N := some 65) (v := ?_) (a' := ?_) #[false, true, false, false, false, false, false, false, false, false, false, false] rfl rfl (any_of HT_.out (by kernel_rfl)) (fun _ _ _ h => h) (Or.inl ⟨by rfl, ?_⟩) ?_ ?_
       rotate_left
       ·intro w'
        go_simp
        with_reducible rfl
       rotate_left
       ·simp only [Act.put, List.setIfInBounds_toArray, List.set_cons_zero, List.set_cons_succ, i64_w, i32_w]
        rfl
       refine pure_ (i := 2) (N := some 66) (v := ?_) (a' := ?_) #[false, true, true, false, false, false, false, false, false, false, false, false] rfl rfl (any_of HT_.out (by kernel_rfl)) (fun _ _ _ h => h) (Or.inl ⟨by rfl, ?_⟩) ?_ ?_
       rotate_left
       ·intro w'
        go_simp
        with_reducible rfl
       rotate_left
       ·simp only [Act.put, List.setIfInBounds_toArray, List.set_cons_zero, List.set_cons_succ, i64_w, i32_w]
        rfl
       refine pure_ (i := 3) (N := some 67) (v := ?_) (a' := ?_) #[false, true, true, true, false, false, false, false, false, false, false, false] rfl rfl (any_of HT_.out (by kernel_rfl)) (fun _ _ _ h => h) (Or.inl ⟨by rfl, ?_⟩) ?_ ?_
       rotate_left
       ·intro w'
        go_simp
        with_reducible rfl
       rotate_left
       ·simp only [Act.put, List.setIfInBounds_toArray, List.set_cons_zero, List.set_cons_succ, i64_w, i32_w]
        rfl
       refine take_ (i := 0) (N := some 64) (v := ?_) (a' := ?_) #[true, true, true, true, false, false, false, false, false, false, false, false] rfl rfl (take_ofW HT_.out HW_.out (by kernel_rfl)) (fun _ _ _ h => h) (Or.inl ⟨by rfl, ?_⟩) hHeld ?_ ?_
       rotate_left
       ·rintro w' ⟨s0, s1, s2⟩
        go_simp
        with_reducible rfl
       rotate_left
       ·simp only [Act.put, List.setIfInBounds_toArray, List.set_cons_zero, List.set_cons_succ, i64_w, i32_w]
        rfl
       refine take_ (i := 4) (N := some 68) (v := ?_) (a' := ?_) #[true, true, true, true, true, false, false, false, false, false, false, false] rfl rfl (take_ofW HT_.out HW_.out (by kernel_rfl)) (fun _ _ _ h => h) (Or.inl ⟨by rfl, ?_⟩) hHeld ?_ ?_
       rotate_left
       ·rintro w' ⟨s0, s1, s2⟩
        go_simp
        with_reducible rfl
       rotate_left
       ·simp only [Act.put, List.setIfInBounds_toArray, List.set_cons_zero, List.set_cons_succ, i64_w, i32_w]
        rfl
       refine join_ (σ := Value × Value × Nat) 2 #[true, true, true, true, true, true, true, true, true, true, false, false] (fun s_ => [(69, .tuple #[.agg #[s_.1, s_.2.1], .bool t580]), (12, .pointer (some ⟨s_.2.2, 0, none⟩)), (63, .tuple #[.agg #[s_.1, s_.2.1], .bool t580]), (70, .agg #[s_.1, s_.2.1]), (71, .bool t580)]) (fun s_ w' => (w'.cell? ⟨gb569, 0, none⟩ = some (.slice Ao41 t565.length co41) ∧ w'.cell? (ad573.add ((x11_2).toNat * 2)) = some (.slice A573_0 ((rd_T40 t570 x11_2).f0).length c573_0) ∧ w'.cell? ⟨(ad573.add ((x11_2).toNat * 2)).block, (ad573.add ((x11_2).toNat * 2)).off + 1, none⟩ = some (.slice A573_1 ((rd_T40 t570 x11_2).f1).length c573_1)) ∧ (Kd.V (Kd.int .i64) 3 w' w.heap.size (fun k_ => some k_ ≠ (s_.1 : Value).ownBlock ∧ some k_ ≠ (s_.2.1 : Value).ownBlock ∧ some k_ ≠ (.slice (some ad573) t570.length co93 : Value).ownBlock ∧ some k_ ≠ (.slice Ao10 t547.length co10 : Value).ownBlock ∧ some k_ ≠ (.slice Ao12 t550.length co12 : Value).ownBlock ∧ some k_ ≠ (.slice Ao15 t555.length co15 : Value).ownBlock ∧ some k_ ≠ (.slice Ao18 t558.length co18 : Value).ownBlock ∧ k_ ≠ gb554 ∧ k_ ≠ gb562 ∧ k_ ≠ gb569 ∧ k_ ≠ s_.2.2) (.slice A573_0 ((rd_T40 t570 x11_2).f0).length c573_0) ((rd_T40 t570 x11_2).f0)) ∧ (Kd.V (Kd.slice 3 (Kd.int .i64)) 24 w' w.heap.size (fun k_ => some k_ ≠ (s_.1 : Value).ownBlock ∧ some k_ ≠ (s_.2.1 : Value).ownBlock ∧ some k_ ≠ (.slice (some ad573) t570.length co93 : Value).ownBlock ∧ some k_ ≠ (.slice Ao10 t547.length co10 : Value).ownBlock ∧ some k_ ≠ (.slice Ao12 t550.length co12 : Value).ownBlock ∧ some k_ ≠ (.slice Ao15 t555.length co15 : Value).ownBlock ∧ some k_ ≠ (.slice Ao18 t558.length co18 : Value).ownBlock ∧ k_ ≠ gb554 ∧ k_ ≠ gb562 ∧ k_ ≠ gb569 ∧ k_ ≠ s_.2.2) (.slice A573_1 ((rd_T40 t570 x11_2).f1).length c573_1) ((rd_T40 t570 x11_2).f1)) ∧ (Kd.R (Kd.int .i64) 3 w' w.heap.size (fun k_ => some k_ ≠ (s_.2.1 : Value).ownBlock ∧ some k_ ≠ (.slice Ao10 t547.length co10 : Value).ownBlock ∧ some k_ ≠ (.slice Ao12 t550.length co12 : Value).ownBlock ∧ some k_ ≠ (.slice Ao15 t555.length co15 : Value).ownBlock ∧ some k_ ≠ (.slice Ao18 t558.length co18 : Value).ownBlock) s_.1 t574) ∧ (Kd.R (Kd.int .i64) 3 w' w.heap.size (fun k_ => some k_ ≠ (s_.1 : Value).ownBlock ∧ some k_ ≠ (.slice Ao10 t547.length co10 : Value).ownBlock ∧ some k_ ≠ (.slice Ao12 t550.length co12 : Value).ownBlock ∧ some k_ ≠ (.slice Ao15 t555.length co15 : Value).ownBlock ∧ some k_ ≠ (.slice Ao18 t558.length co18 : Value).ownBlock) s_.2.1 t577) ∧ (Kd.N k40 40 w' w.heap.size (fun k_ => some k_ ≠ (s_.1 : Value).ownBlock ∧ some k_ ≠ (s_.2.1 : Value).ownBlock ∧ some k_ ≠ (.slice Ao10 t547.length co10 : Value).ownBlock ∧ some k_ ≠ (.slice Ao12 t550.length co12 : Value).ownBlock ∧ some k_ ≠ (.slice Ao15 t555.length co15 : Value).ownBlock ∧ some k_ ≠ (.slice Ao18 t558.length co18 : Value).ownBlock ∧ k_ ≠ gb554 ∧ k_ ≠ gb562 ∧ k_ ≠ gb569 ∧ k_ ≠ s_.2.2) (.slice (some ad573) t570.length co93) t570) ∧ (Kd.R (Kd.int .i64) 3 w' w.heap.size (fun k_ => some k_ ≠ (s_.1 : Value).ownBlock ∧ some k_ ≠ (s_.2.1 : Value).ownBlock ∧ some k_ ≠ (.slice Ao12 t550.length co12 : Value).ownBlock ∧ some k_ ≠ (.slice Ao15 t555.length co15 : Value).ownBlock ∧ some k_ ≠ (.slice Ao18 t558.length co18 : Value).ownBlock) (.slice Ao10 t547.length co10) t547) ∧ (Kd.R (Kd.int .i64) 3 w' w.heap.size (fun k_ => some k_ ≠ (s_.1 : Value).ownBlock ∧ some k_ ≠ (s_.2.1 : Value).ownBlock ∧ some k_ ≠ (.slice Ao10 t547.length co10 : Value).ownBlock ∧ some k_ ≠ (.slice Ao15 t555.length co15 : Value).ownBlock ∧ some k_ ≠ (.slice Ao18 t558.length co18 : Value).ownBlock) (.slice Ao12 t550.length co12) t550) ∧ (Kd.R (Kd.int .i64) 3 w' w.heap.size (fun k_ => some k_ ≠ (s_.1 : Value).ownBlock ∧ some k_ ≠ (s_.2.1 : Value).ownBlock ∧ some k_ ≠ (.slice Ao10 t547.length co10 : Value).ownBlock ∧ some k_ ≠ (.slice Ao12 t550.length co12 : Value).ownBlock ∧ some k_ ≠ (.slice Ao18 t558.length co18 : Value).ownBlock) (.slice Ao15 t555.length co15) t555) ∧ (Kd.R (Kd.int .i64) 3 w' w.heap.size (fun k_ => some k_ ≠ (s_.1 : Value).ownBlock ∧ some k_ ≠ (s_.2.1 : Value).ownBlock ∧ some k_ ≠ (.slice Ao10 t547.length co10 : Value).ownBlock ∧ some k_ ≠ (.slice Ao12 t550.length co12 : Value).ownBlock ∧ some k_ ≠ (.slice Ao15 t555.length co15 : Value).ownBlock) (.slice Ao18 t558.length co18) t558) ∧ (Kd.N (Kd.slice 70 k70) 55 w' w.heap.size (fun k_ => some k_ ≠ (s_.1 : Value).ownBlock ∧ some k_ ≠ (s_.2.1 : Value).ownBlock ∧ some k_ ≠ (.slice (some ad573) t570.length co93 : Value).ownBlock ∧ some k_ ≠ (.slice Ao10 t547.length co10 : Value).ownBlock ∧ some k_ ≠ (.slice Ao12 t550.length co12 : Value).ownBlock ∧ some k_ ≠ (.slice Ao15 t555.length co15 : Value).ownBlock ∧ some k_ ≠ (.slice Ao18 t558.length co18 : Value).ownBlock ∧ k_ ≠ gb554 ∧ k_ ≠ gb562 ∧ k_ ≠ gb569 ∧ k_ ≠ s_.2.2) (.slice Ao41 t565.length co41) t565) ∧ (w'.heap[gb554]? = some (.cells #[.slice Ao10 t547.length co10, .slice Ao12 t550.length co12] 26 (0, 0))) ∧ (w'.heap[gb562]? = some (.cells #[.slice Ao15 t555.length co15, .slice Ao18 t558.length co18] 26 (0, 0))) ∧ (w'.heap[gb569]? = some (.cells #[.slice Ao41 t565.length co41] 32 (0, 0))) ∧ (w'.heap[s_.2.2]? = some (.cells #[.slice none 0 0, .slice none 0 0] 26 (0, 0))) ∧ (w.heap.size ≤ s_.2.2) ∧ (w.heap.size ≤ s_.2.2) ∧ (gb554 ≠ s_.2.2) ∧ (s_.2.2 ≠ gb554) ∧ (gb562 ≠ s_.2.2) ∧ (s_.2.2 ≠ gb562) ∧ (gb569 ≠ s_.2.2) ∧ (s_.2.2 ≠ gb569) ∧ (Below w.heap.size w w')) ?_ ?_
       rotate_left
       ·intro hCont
        refine two_ (i := 5) (j := 9) (Ni := some 69) (Nj := some 12) #[true, true, true, true, true, true, false, false, false, false, false, false] #[true, true, true, true, true, false, false, false, false, true, false, false] rfl rfl rfl rfl (two_of HT_.out (by kernel_rfl)) (by decide) (by decide) (fun K hK => ?_) (fun K hK => ?_)
        ·skip
         refine goes_ Try.func10 (by kernel_rfl) rfl #[.agg #[.slice Ao41 t565.length co41], .agg #[.slice A573_0 ((rd_T40 t570 x11_2).f0).length c573_0, .slice A573_1 ((rd_T40 t570 x11_2).f1).length c573_1]] (by rfl) rfl rfl (by (try simp only [List.map_toArray, List.map_cons, List.map_nil]); first | done | rfl | (simp only [List.length_drop, List.length_take]; rfl)) ?_
         with_reducible refine (impl_ExecSeen.calls k2 _ _ t565 _ _ ((rd_T40 t570 x11_2).f0) _ _ ((rd_T40 t570 x11_2).f1) t574 t577 t580 _ ?side1 ?side2 ?side3 ?side4 ?side5 ?side6 A50.out).mono ?_
         (case side1 => repeat (first | exact (Kd.N_reads' HO_04.out).2.2 | (with_reducible refine Kd.C_alloc ?_ _) | (with_reducible refine Kd.C_drewN ?_ _) | (with_reducible refine Kd.C_drew ?_)))
         (case side2 => exact (Kd.N_reads' HO_04.out).2.1)
         (case side3 => repeat (first | exact z3_7 | (with_reducible refine Kd.C_alloc ?_ _) | (with_reducible refine Kd.C_drewN ?_ _) | (with_reducible refine Kd.C_drew ?_)))
         (case side4 => exact HC573_0.out)
         (case side5 => repeat (first | exact z3_8 | (with_reducible refine Kd.C_alloc ?_ _) | (with_reducible refine Kd.C_drewN ?_ _) | (with_reducible refine Kd.C_drew ?_)))
         (case side6 => exact HC573_1.out)
         rintro e w95 ⟨v575, v578, rfl, ho0, ho1, hb⟩
         have HS1_ := (hb.cell (World.block_lt_of_cell? _ _ (hHeld.2.1))).trans (hHeld.2.1)
         have HS2_ := (hb.cell (World.block_lt_of_cell? _ _ (hHeld.2.2))).trans (hHeld.2.2)
         refine ⟨_, rfl, ?_⟩
         have n0_ := am_ (Kd.N_mono (Kd.N_told (Kd.N_told (Kd.N_old (nu HO_10.out) hb) (Kd.R_base ho0)) (Kd.R_base ho1)) (fun _ h_ => h_.1))
         have n1_ := am_ (Kd.R_mono (Kd.R_told (Kd.R_told (Kd.R_old (ru HO_02.out) hb) (Kd.R_base ho0)) (Kd.R_base ho1)) (fun _ h_ => h_.1))
         have n2_ := am_ (Kd.R_mono (Kd.R_told (Kd.R_told (Kd.R_old (ru HO_03.out) hb) (Kd.R_base ho0)) (Kd.R_base ho1)) (fun _ h_ => h_.1))
         have n3_ := am_ (Kd.R_mono (Kd.R_told (Kd.R_told (Kd.R_old (ru HO_00.out) hb) (Kd.R_base ho0)) (Kd.R_base ho1)) (fun _ h_ => h_.1))
         have n4_ := am_ (Kd.R_mono (Kd.R_told (Kd.R_told (Kd.R_old (ru HO_01.out) hb) (Kd.R_base ho0)) (Kd.R_base ho1)) (fun _ h_ => h_.1))
         have n5_ := am_ (Kd.N_mono (Kd.N_told (Kd.N_told (Kd.N_old (nu HO_04.out) hb) (Kd.R_base ho0)) (Kd.R_base ho1)) (fun _ h_ => h_.1))
         have n6_ := am_ (Kd.V_mono (Kd.V_told (Kd.V_told (Kd.V_old (vu HL573_0.out) hb) (Kd.R_base ho0)) (Kd.R_base ho1)) (fun _ h_ => h_.1))
         have n7_ := am_ (Kd.V_mono (Kd.V_told (Kd.V_told (Kd.V_old (vu HL573_1.out) hb) (Kd.R_base ho0)) (Kd.R_base ho1)) (fun _ h_ => h_.1))
         have n8_ := am_ (Kd.R_lower (Kd.R_new' (Kd.R_new' (Kd.R_new' (Kd.R_new' ho0 (Kd.R_lt (ru HO_02.out))) (Kd.R_lt (ru HO_03.out))) (Kd.R_lt (ru HO_00.out))) (Kd.R_lt (ru HO_01.out))) (below_size z3_10))
         have n9_ := am_ (Kd.R_lower (Kd.R_new' (Kd.R_new' (Kd.R_new' (Kd.R_new' ho1 (Kd.R_lt (ru HO_02.out))) (Kd.R_lt (ru HO_03.out))) (Kd.R_lt (ru HO_00.out))) (Kd.R_lt (ru HO_01.out))) (below_size z3_10))
         have n10_ := am_ (blk_below (bu BK554.out) hb)
         have n11_ := am_ (blk_below (bu BK562.out) hb)
         have n12_ := am_ (blk_below (bu BK569.out) hb)
         have n13_ := am_ (Kd.C_below z3_7 hb)
         have n14_ := am_ (Kd.C_below z3_8 hb)
         have n15_ := am_ (below_step z3_10 hb)
         clear HO_10 HO_02 HO_03 HO_00 HO_01 HO_04 HL573_0 HL573_1 BK554 BK562 BK569 HR573_0 HR573_1 HB
         have HO_10 := n0_
         have HO_02 := n1_
         have HO_03 := n2_
         have HO_00 := n3_
         have HO_01 := n4_
         have HO_04 := n5_
         have HL573_0 := n6_
         have HL573_1 := n7_
         have HO576 := n8_
         have HO579 := n9_
         have BK554 := n10_
         have BK562 := n11_
         have BK569 := n12_
         have HR573_0 := n13_
         have HR573_1 := n14_
         have HB := n15_
         clear n0_ n1_ n2_ n3_ n4_ n5_ n6_ n7_ n8_ n9_ n10_ n11_ n12_ n13_ n14_ n15_
         (try clear hb)
         (try clear hb2)
         (try clear hk)
         (try clear hi)
         (try clear ho0)
         (try clear ho1)
         refine hK.out _ _ ⟨(blk_cell BK569.out 0).trans rfl, HS1_, HS2_⟩ (fun hHeld => ?_)
         clear hK K
         refine norm_ (a' := ?_) ?_ ?_
         rotate_left
         ·show Act.put _ (some 69) _ = _
          simp only [Act.put, List.setIfInBounds_toArray, List.set_cons_zero, List.set_cons_succ, i64_w, i32_w]
          rfl
         refine pure_ (i := 6) (N := some 63) (v := ?_) (a' := ?_) #[true, true, true, true, true, true, true, false, false, false, false, false] rfl rfl (any_of HT_.out (by kernel_rfl)) (fun _ _ _ h => h) (Or.inl ⟨by rfl, ?_⟩) ?_ ?_
         rotate_left
         ·intro w'
          go_simp
          with_reducible rfl
         rotate_left
         ·simp only [Act.put, List.setIfInBounds_toArray, List.set_cons_zero, List.set_cons_succ, i64_w, i32_w]
          rfl
         refine pure_ (i := 7) (N := some 70) (v := ?_) (a' := ?_) #[true, true, true, true, true, true, true, true, false, false, false, false] rfl rfl (any_of HT_.out (by kernel_rfl)) (fun _ _ _ h => h) (Or.inl ⟨by rfl, ?_⟩) ?_ ?_
         rotate_left
         ·intro w'
          go_simp
          with_reducible rfl
         rotate_left
         ·simp only [Act.put, List.setIfInBounds_toArray, List.set_cons_zero, List.set_cons_succ, i64_w, i32_w]
          rfl
         refine pure_ (i := 8) (N := some 71) (v := ?_) (a' := ?_) #[true, true, true, true, true, true, true, true, true, false, false, false] rfl rfl (any_of HT_.out (by kernel_rfl)) (fun _ _ _ h => h) (Or.inl ⟨by rfl, ?_⟩) ?_ ?_
         rotate_left
         ·intro w'
          go_simp
          with_reducible rfl
         rotate_left
         ·simp only [Act.put, List.setIfInBounds_toArray, List.set_cons_zero, List.set_cons_succ, i64_w, i32_w]
          rfl
         refine one_ (i := 9) (N := some 12) #[true, true, true, true, true, true, true, true, true, true, false, false] rfl rfl (one_of HT_.out (by kernel_rfl)) (by decide) (fun K hK => ?_)
         refine box_step ?hg (N := 12) ?hd (cs := #[.slice none 0 0, .slice none 0 0]) (t := 26) ?hr ?_; (case hd => rfl); (case hg => rfl); (case hr => first | (go_simp; done) | (go_simp; rfl))
         intro gb581 hg w96 hbox hb
         have HS1_ := (hb.cell (World.block_lt_of_cell? _ _ (hHeld.2.1))).trans (hHeld.2.1)
         have HS2_ := (hb.cell (World.block_lt_of_cell? _ _ (hHeld.2.2))).trans (hHeld.2.2)
         have n0_ := am_ (Kd.N_below (Kd.N_elderB (nu HO_10.out) gb581 (Nat.le_of_eq hg.symm)) hb)
         have n1_ := am_ (Kd.R_below (ru HO_02.out) hb)
         have n2_ := am_ (Kd.R_below (ru HO_03.out) hb)
         have n3_ := am_ (Kd.R_below (ru HO_00.out) hb)
         have n4_ := am_ (Kd.R_below (ru HO_01.out) hb)
         have n5_ := am_ (Kd.N_below (Kd.N_elderB (nu HO_04.out) gb581 (Nat.le_of_eq hg.symm)) hb)
         have n6_ := am_ (Kd.V_below (Kd.V_elderB (vu HL573_0.out) gb581 (Nat.le_of_eq hg.symm)) hb)
         have n7_ := am_ (Kd.V_below (Kd.V_elderB (vu HL573_1.out) gb581 (Nat.le_of_eq hg.symm)) hb)
         have n8_ := am_ (Kd.R_below (ru HO576.out) hb)
         have n9_ := am_ (Kd.R_below (ru HO579.out) hb)
         have n10_ := am_ (blk_below (bu BK554.out) hb)
         have n11_ := am_ (blk_below (bu BK562.out) hb)
         have n12_ := am_ (blk_below (bu BK569.out) hb)
         have n13_ := am_ (Kd.C_below z3_7 hb)
         have n14_ := am_ (Kd.C_below z3_8 hb)
         have n15_ := am_ (below_step z3_10 hb)
         have n16_ := am_ (hbox)
         have n17_ := am_ ((by rw [hg]; exact (below_size z3_10) : w.heap.size ≤ gb581))
         have n18_ := am_ ((by rw [hg]; exact (below_size z3_10) : w.heap.size ≤ gb581))
         have n19_ := am_ ((by rw [hg]; exact Nat.ne_of_lt (blk_lt (bu BK554.out)) : gb554 ≠ gb581))
         have n20_ := am_ ((by rw [hg]; exact Nat.ne_of_gt (blk_lt (bu BK554.out)) : gb581 ≠ gb554))
         have n21_ := am_ ((by rw [hg]; exact Nat.ne_of_lt (blk_lt (bu BK562.out)) : gb562 ≠ gb581))
         have n22_ := am_ ((by rw [hg]; exact Nat.ne_of_gt (blk_lt (bu BK562.out)) : gb581 ≠ gb562))
         have n23_ := am_ ((by rw [hg]; exact Nat.ne_of_lt (blk_lt (bu BK569.out)) : gb569 ≠ gb581))
         have n24_ := am_ ((by rw [hg]; exact Nat.ne_of_gt (blk_lt (bu BK569.out)) : gb581 ≠ gb569))
         clear HO_10 HO_02 HO_03 HO_00 HO_01 HO_04 HL573_0 HL573_1 HO576 HO579 BK554 BK562 BK569 HR573_0 HR573_1 HB
         have HO_10 := n0_
         have HO_02 := n1_
         have HO_03 := n2_
         have HO_00 := n3_
         have HO_01 := n4_
         have HO_04 := n5_
         have HL573_0 := n6_
         have HL573_1 := n7_
         have HO576 := n8_
         have HO579 := n9_
         have BK554 := n10_
         have BK562 := n11_
         have BK569 := n12_
         have HR573_0 := n13_
         have HR573_1 := n14_
         have HB := n15_
         have BK581 := n16_
         have GW581 := n17_
         have GE581 := n18_
         have NB554_581 := n19_
         have NB581_554 := n20_
         have NB562_581 := n21_
         have NB581_562 := n22_
         have NB569_581 := n23_
         have NB581_569 := n24_
         clear n0_ n1_ n2_ n3_ n4_ n5_ n6_ n7_ n8_ n9_ n10_ n11_ n12_ n13_ n14_ n15_ n16_ n17_ n18_ n19_ n20_ n21_ n22_ n23_ n24_ hb hbox hg
         refine hK.out _ _ ⟨(blk_cell BK569.out 0).trans rfl, HS1_, HS2_⟩ (fun hHeld => ?_)
         clear hK K
         refine norm_ (a' := ?_) ?_ ?_
         rotate_left
         ·show Act.put _ (some 12) _ = _
          simp only [Act.put, List.setIfInBounds_toArray, List.set_cons_zero, List.set_cons_succ, i64_w, i32_w]
          rfl
         exact norm_ z3_4 (hCont (v575, v578, gb581) _ ⟨hHeld, (vu (Kd.V_mono HL573_0.out (fun _ hk => ⟨hk.1.1.2, ⟨hk.1.2, ⟨hk.1.1.1.2, ⟨hk.1.1.1.1.1, ⟨hk.1.1.1.1.2.1, ⟨hk.1.1.1.1.2.2.1, ⟨hk.1.1.1.1.2.2.2.1, ⟨hk.1.1.1.1.2.2.2.2.1, ⟨hk.1.1.1.1.2.2.2.2.2.1, ⟨hk.1.1.1.1.2.2.2.2.2.2, hk.2⟩⟩⟩⟩⟩⟩⟩⟩⟩⟩))), (vu (Kd.V_mono HL573_1.out (fun _ hk => ⟨hk.1.1.2, ⟨hk.1.2, ⟨hk.1.1.1.2, ⟨hk.1.1.1.1.1, ⟨hk.1.1.1.1.2.1, ⟨hk.1.1.1.1.2.2.1, ⟨hk.1.1.1.1.2.2.2.1, ⟨hk.1.1.1.1.2.2.2.2.1, ⟨hk.1.1.1.1.2.2.2.2.2.1, ⟨hk.1.1.1.1.2.2.2.2.2.2, hk.2⟩⟩⟩⟩⟩⟩⟩⟩⟩⟩))), (ru (Kd.R_mono HO576.out (fun _ hk => ⟨hk.1.1.1.1, ⟨hk.1.1.1.2, ⟨hk.1.1.2, ⟨hk.1.2, hk.2⟩⟩⟩⟩))), (ru (Kd.R_mono HO579.out (fun _ hk => ⟨hk.1.1.1.1, ⟨hk.1.1.1.2, ⟨hk.1.1.2, ⟨hk.1.2, hk.2⟩⟩⟩⟩))), (nu (Kd.N_mono HO_10.out (fun _ hk => ⟨hk.1.1.2, ⟨hk.1.2, ⟨hk.1.1.1.1, ⟨hk.1.1.1.2.1, ⟨hk.1.1.1.2.2.1, ⟨hk.1.1.1.2.2.2.1, ⟨hk.1.1.1.2.2.2.2.1, ⟨hk.1.1.1.2.2.2.2.2.1, ⟨hk.1.1.1.2.2.2.2.2.2, hk.2⟩⟩⟩⟩⟩⟩⟩⟩⟩))), (ru (Kd.R_mono HO_02.out (fun _ hk => ⟨hk.1.2, ⟨hk.2, ⟨hk.1.1.1, ⟨hk.1.1.2.1, hk.1.1.2.2⟩⟩⟩⟩))), (ru (Kd.R_mono HO_03.out (fun _ hk => ⟨hk.1.2, ⟨hk.2, ⟨hk.1.1.1, ⟨hk.1.1.2.1, hk.1.1.2.2⟩⟩⟩⟩))), (ru (Kd.R_mono HO_00.out (fun _ hk => ⟨hk.1.2, ⟨hk.2, ⟨hk.1.1.1, ⟨hk.1.1.2.1, hk.1.1.2.2⟩⟩⟩⟩))), (ru (Kd.R_mono HO_01.out (fun _ hk => ⟨hk.1.2, ⟨hk.2, ⟨hk.1.1.1, ⟨hk.1.1.2.1, hk.1.1.2.2⟩⟩⟩⟩))), (nu (Kd.N_mono HO_04.out (fun _ hk => ⟨hk.1.1.2, ⟨hk.1.2, ⟨hk.1.1.1.1, ⟨hk.1.1.1.2.1, ⟨hk.1.1.1.2.2.1, ⟨hk.1.1.1.2.2.2.1, ⟨hk.1.1.1.2.2.2.2.1, ⟨hk.1.1.1.2.2.2.2.2.1, ⟨hk.1.1.1.2.2.2.2.2.2.1, ⟨hk.1.1.1.2.2.2.2.2.2.2, hk.2⟩⟩⟩⟩⟩⟩⟩⟩⟩⟩))), (bu BK554.out), (bu BK562.out), (bu BK569.out), (bu BK581.out), GW581.out, GE581.out, NB554_581.out, NB581_554.out, NB562_581.out, NB581_562.out, NB569_581.out, NB581_569.out, z3_11⟩)
        skip
        refine box_step ?hg (N := 12) ?hd (cs := #[.slice none 0 0, .slice none 0 0]) (t := 26) ?hr ?_; (case hd => rfl); (case hg => rfl); (case hr => first | (go_simp; done) | (go_simp; rfl))
        intro gb581 hg w95 hbox hb
        have HS1_ := (hb.cell (World.block_lt_of_cell? _ _ (hHeld.2.1))).trans (hHeld.2.1)
        have HS2_ := (hb.cell (World.block_lt_of_cell? _ _ (hHeld.2.2))).trans (hHeld.2.2)
        have n0_ := am_ (Kd.N_below (Kd.N_elderB (nu HO_10.out) gb581 (Nat.le_of_eq hg.symm)) hb)
        have n1_ := am_ (Kd.R_below (ru HO_02.out) hb)
        have n2_ := am_ (Kd.R_below (ru HO_03.out) hb)
        have n3_ := am_ (Kd.R_below (ru HO_00.out) hb)
        have n4_ := am_ (Kd.R_below (ru HO_01.out) hb)
        have n5_ := am_ (Kd.N_below (Kd.N_elderB (nu HO_04.out) gb581 (Nat.le_of_eq hg.symm)) hb)
        have n6_ := am_ (Kd.V_below (Kd.V_elderB (vu HL573_0.out) gb581 (Nat.le_of_eq hg.symm)) hb)
        have n7_ := am_ (Kd.V_below (Kd.V_elderB (vu HL573_1.out) gb581 (Nat.le_of_eq hg.symm)) hb)
        have n8_ := am_ (blk_below (bu BK554.out) hb)
        have n9_ := am_ (blk_below (bu BK562.out) hb)
        have n10_ := am_ (blk_below (bu BK569.out) hb)
        have n11_ := am_ (Kd.C_below z3_7 hb)
        have n12_ := am_ (Kd.C_below z3_8 hb)
        have n13_ := am_ (below_step z3_10 hb)
        have n14_ := am_ (hbox)
        have n15_ := am_ ((by rw [hg]; exact (below_size z3_10) : w.heap.size ≤ gb581))
        have n16_ := am_ ((by rw [hg]; exact (below_size z3_10) : w.heap.size ≤ gb581))
        have n17_ := am_ ((by rw [hg]; exact Nat.ne_of_lt (blk_lt (bu BK554.out)) : gb554 ≠ gb581))
        have n18_ := am_ ((by rw [hg]; exact Nat.ne_of_gt (blk_lt (bu BK554.out)) : gb581 ≠ gb554))
        have n19_ := am_ ((by rw [hg]; exact Nat.ne_of_lt (blk_lt (bu BK562.out)) : gb562 ≠ gb581))
        have n20_ := am_ ((by rw [hg]; exact Nat.ne_of_gt (blk_lt (bu BK562.out)) : gb581 ≠ gb562))
        have n21_ := am_ ((by rw [hg]; exact Nat.ne_of_lt (blk_lt (bu BK569.out)) : gb569 ≠ gb581))
        have n22_ := am_ ((by rw [hg]; exact Nat.ne_of_gt (blk_lt (bu BK569.out)) : gb581 ≠ gb569))
        clear HO_10 HO_02 HO_03 HO_00 HO_01 HO_04 HL573_0 HL573_1 BK554 BK562 BK569 HR573_0 HR573_1 HB
        have HO_10 := n0_
        have HO_02 := n1_
        have HO_03 := n2_
        have HO_00 := n3_
        have HO_01 := n4_
        have HO_04 := n5_
        have HL573_0 := n6_
        have HL573_1 := n7_
        have BK554 := n8_
        have BK562 := n9_
        have BK569 := n10_
        have HR573_0 := n11_
        have HR573_1 := n12_
        have HB := n13_
        have BK581 := n14_
        have GW581 := n15_
        have GE581 := n16_
        have NB554_581 := n17_
        have NB581_554 := n18_
        have NB562_581 := n19_
        have NB581_562 := n20_
        have NB569_581 := n21_
        have NB581_569 := n22_
        clear n0_ n1_ n2_ n3_ n4_ n5_ n6_ n7_ n8_ n9_ n10_ n11_ n12_ n13_ n14_ n15_ n16_ n17_ n18_ n19_ n20_ n21_ n22_ hb hbox hg
        refine hK.out _ _ ⟨(blk_cell BK569.out 0).trans rfl, HS1_, HS2_⟩ (fun hHeld => ?_)
        clear hK K
        refine norm_ (a' := ?_) ?_ ?_
        rotate_left
        ·show Act.put _ (some 12) _ = _
         simp only [Act.put, List.setIfInBounds_toArray, List.set_cons_zero, List.set_cons_succ, i64_w, i32_w]
         rfl
        refine one_ (i := 5) (N := some 69) #[true, true, true, true, true, true, false, false, false, true, false, false] rfl rfl (one_of HT_.out (by kernel_rfl)) (by decide) (fun K hK => ?_)
        refine goes_ Try.func10 (by kernel_rfl) rfl #[.agg #[.slice Ao41 t565.length co41], .agg #[.slice A573_0 ((rd_T40 t570 x11_2).f0).length c573_0, .slice A573_1 ((rd_T40 t570 x11_2).f1).length c573_1]] (by rfl) rfl rfl (by (try simp only [List.map_toArray, List.map_cons, List.map_nil]); first | done | rfl | (simp only [List.length_drop, List.length_take]; rfl)) ?_
        with_reducible refine (impl_ExecSeen.calls k2 _ _ t565 _ _ ((rd_T40 t570 x11_2).f0) _ _ ((rd_T40 t570 x11_2).f1) t574 t577 t580 _ ?side1 ?side2 ?side3 ?side4 ?side5 ?side6 A50.out).mono ?_
        (case side1 => repeat (first | exact (Kd.N_reads' HO_04.out).2.2 | (with_reducible refine Kd.C_alloc ?_ _) | (with_reducible refine Kd.C_drewN ?_ _) | (with_reducible refine Kd.C_drew ?_)))
        (case side2 => exact (Kd.N_reads' HO_04.out).2.1)
        (case side3 => repeat (first | exact z3_7 | (with_reducible refine Kd.C_alloc ?_ _) | (with_reducible refine Kd.C_drewN ?_ _) | (with_reducible refine Kd.C_drew ?_)))
        (case side4 => exact HC573_0.out)
        (case side5 => repeat (first | exact z3_8 | (with_reducible refine Kd.C_alloc ?_ _) | (with_reducible refine Kd.C_drewN ?_ _) | (with_reducible refine Kd.C_drew ?_)))
        (case side6 => exact HC573_1.out)
        rintro e w96 ⟨v575, v578, rfl, ho0, ho1, hb⟩
        have HS1_ := (hb.cell (World.block_lt_of_cell? _ _ (hHeld.2.1))).trans (hHeld.2.1)
        have HS2_ := (hb.cell (World.block_lt_of_cell? _ _ (hHeld.2.2))).trans (hHeld.2.2)
        refine ⟨_, rfl, ?_⟩
        have n0_ := am_ (Kd.N_mono (Kd.N_told (Kd.N_told (Kd.N_old (nu HO_10.out) hb) (Kd.R_base ho0)) (Kd.R_base ho1)) (fun _ h_ => h_.1))
        have n1_ := am_ (Kd.R_mono (Kd.R_told (Kd.R_told (Kd.R_old (ru HO_02.out) hb) (Kd.R_base ho0)) (Kd.R_base ho1)) (fun _ h_ => h_.1))
        have n2_ := am_ (Kd.R_mono (Kd.R_told (Kd.R_told (Kd.R_old (ru HO_03.out) hb) (Kd.R_base ho0)) (Kd.R_base ho1)) (fun _ h_ => h_.1))
        have n3_ := am_ (Kd.R_mono (Kd.R_told (Kd.R_told (Kd.R_old (ru HO_00.out) hb) (Kd.R_base ho0)) (Kd.R_base ho1)) (fun _ h_ => h_.1))
        have n4_ := am_ (Kd.R_mono (Kd.R_told (Kd.R_told (Kd.R_old (ru HO_01.out) hb) (Kd.R_base ho0)) (Kd.R_base ho1)) (fun _ h_ => h_.1))
        have n5_ := am_ (Kd.N_mono (Kd.N_told (Kd.N_told (Kd.N_old (nu HO_04.out) hb) (Kd.R_base ho0)) (Kd.R_base ho1)) (fun _ h_ => h_.1))
        have n6_ := am_ (Kd.V_mono (Kd.V_told (Kd.V_told (Kd.V_old (vu HL573_0.out) hb) (Kd.R_base ho0)) (Kd.R_base ho1)) (fun _ h_ => h_.1))
        have n7_ := am_ (Kd.V_mono (Kd.V_told (Kd.V_told (Kd.V_old (vu HL573_1.out) hb) (Kd.R_base ho0)) (Kd.R_base ho1)) (fun _ h_ => h_.1))
        have n8_ := am_ (Kd.R_lower (Kd.R_new' (Kd.R_new' (Kd.R_new' (Kd.R_new' ho0 (Kd.R_lt (ru HO_02.out))) (Kd.R_lt (ru HO_03.out))) (Kd.R_lt (ru HO_00.out))) (Kd.R_lt (ru HO_01.out))) (below_size z3_11))
        have n9_ := am_ (Kd.R_lower (Kd.R_new' (Kd.R_new' (Kd.R_new' (Kd.R_new' ho1 (Kd.R_lt (ru HO_02.out))) (Kd.R_lt (ru HO_03.out))) (Kd.R_lt (ru HO_00.out))) (Kd.R_lt (ru HO_01.out))) (below_size z3_11))
        have n10_ := am_ (blk_below (bu BK554.out) hb)
        have n11_ := am_ (blk_below (bu BK562.out) hb)
        have n12_ := am_ (blk_below (bu BK569.out) hb)
        have n13_ := am_ (Kd.C_below z3_7 hb)
        have n14_ := am_ (Kd.C_below z3_8 hb)
        have n15_ := am_ (blk_below (bu BK581.out) hb)
        have n16_ := am_ (below_step z3_11 hb)
        clear HO_10 HO_02 HO_03 HO_00 HO_01 HO_04 HL573_0 HL573_1 BK554 BK562 BK569 HR573_0 HR573_1 BK581 HB
        have HO_10 := n0_
        have HO_02 := n1_
        have HO_03 := n2_
        have HO_00 := n3_
        have HO_01 := n4_
        have HO_04 := n5_
        have HL573_0 := n6_
        have HL573_1 := n7_
        have HO576 := n8_
        have HO579 := n9_
        have BK554 := n10_
        have BK562 := n11_
        have BK569 := n12_
        have HR573_0 := n13_
        have HR573_1 := n14_
        have BK581 := n15_
        have HB := n16_
        clear n0_ n1_ n2_ n3_ n4_ n5_ n6_ n7_ n8_ n9_ n10_ n11_ n12_ n13_ n14_ n15_ n16_
        (try clear hb)
        (try clear hb2)
        (try clear hk)
        (try clear hi)
        (try clear ho0)
        (try clear ho1)
        refine hK.out _ _ ⟨(blk_cell BK569.out 0).trans rfl, HS1_, HS2_⟩ (fun hHeld => ?_)
        clear hK K
        refine norm_ (a' := ?_) ?_ ?_
        rotate_left
        ·show Act.put _ (some 69) _ = _
         simp only [Act.put, List.setIfInBounds_toArray, List.set_cons_zero, List.set_cons_succ, i64_w, i32_w]
         rfl
        refine pure_ (i := 6) (N := some 63) (v := ?_) (a' := ?_) #[true, true, true, true, true, true, true, false, false, true, false, false] rfl rfl (any_of HT_.out (by kernel_rfl)) (fun _ _ _ h => h) (Or.inl ⟨by rfl, ?_⟩) ?_ ?_
        rotate_left
        ·intro w'
         go_simp
         with_reducible rfl
        rotate_left
        ·simp only [Act.put, List.setIfInBounds_toArray, List.set_cons_zero, List.set_cons_succ, i64_w, i32_w]
         rfl
        refine pure_ (i := 7) (N := some 70) (v := ?_) (a' := ?_) #[true, true, true, true, true, true, true, true, false, true, false, false] rfl rfl (any_of HT_.out (by kernel_rfl)) (fun _ _ _ h => h) (Or.inl ⟨by rfl, ?_⟩) ?_ ?_
        rotate_left
        ·intro w'
         go_simp
         with_reducible rfl
        rotate_left
        ·simp only [Act.put, List.setIfInBounds_toArray, List.set_cons_zero, List.set_cons_succ, i64_w, i32_w]
         rfl
        refine pure_ (i := 8) (N := some 71) (v := ?_) (a' := ?_) #[true, true, true, true, true, true, true, true, true, true, false, false] rfl rfl (any_of HT_.out (by kernel_rfl)) (fun _ _ _ h => h) (Or.inl ⟨by rfl, ?_⟩) ?_ ?_
        rotate_left
        ·intro w'
         go_simp
         with_reducible rfl
        rotate_left
        ·simp only [Act.put, List.setIfInBounds_toArray, List.set_cons_zero, List.set_cons_succ, i64_w, i32_w]
         rfl
        exact norm_ z3_4 (hCont (v575, v578, gb581) _ ⟨hHeld, (vu (Kd.V_mono HL573_0.out (fun _ hk => ⟨hk.1.2, ⟨hk.2, ⟨hk.1.1.1.2, ⟨hk.1.1.1.1.1, ⟨hk.1.1.1.1.2.1, ⟨hk.1.1.1.1.2.2.1, ⟨hk.1.1.1.1.2.2.2.1, ⟨hk.1.1.1.1.2.2.2.2.1, ⟨hk.1.1.1.1.2.2.2.2.2.1, ⟨hk.1.1.1.1.2.2.2.2.2.2, hk.1.1.2⟩⟩⟩⟩⟩⟩⟩⟩⟩⟩))), (vu (Kd.V_mono HL573_1.out (fun _ hk => ⟨hk.1.2, ⟨hk.2, ⟨hk.1.1.1.2, ⟨hk.1.1.1.1.1, ⟨hk.1.1.1.1.2.1, ⟨hk.1.1.1.1.2.2.1, ⟨hk.1.1.1.1.2.2.2.1, ⟨hk.1.1.1.1.2.2.2.2.1, ⟨hk.1.1.1.1.2.2.2.2.2.1, ⟨hk.1.1.1.1.2.2.2.2.2.2, hk.1.1.2⟩⟩⟩⟩⟩⟩⟩⟩⟩⟩))), (ru (Kd.R_mono HO576.out (fun _ hk => ⟨hk.1.1.1.1, ⟨hk.1.1.1.2, ⟨hk.1.1.2, ⟨hk.1.2, hk.2⟩⟩⟩⟩))), (ru (Kd.R_mono HO579.out (fun _ hk => ⟨hk.1.1.1.1, ⟨hk.1.1.1.2, ⟨hk.1.1.2, ⟨hk.1.2, hk.2⟩⟩⟩⟩))), (nu (Kd.N_mono HO_10.out (fun _ hk => ⟨hk.1.2, ⟨hk.2, ⟨hk.1.1.1.1, ⟨hk.1.1.1.2.1, ⟨hk.1.1.1.2.2.1, ⟨hk.1.1.1.2.2.2.1, ⟨hk.1.1.1.2.2.2.2.1, ⟨hk.1.1.1.2.2.2.2.2.1, ⟨hk.1.1.1.2.2.2.2.2.2, hk.1.1.2⟩⟩⟩⟩⟩⟩⟩⟩⟩))), (ru (Kd.R_mono HO_02.out (fun _ hk => ⟨hk.1.2, ⟨hk.2, ⟨hk.1.1.1, ⟨hk.1.1.2.1, hk.1.1.2.2⟩⟩⟩⟩))), (ru (Kd.R_mono HO_03.out (fun _ hk => ⟨hk.1.2, ⟨hk.2, ⟨hk.1.1.1, ⟨hk.1.1.2.1, hk.1.1.2.2⟩⟩⟩⟩))), (ru (Kd.R_mono HO_00.out (fun _ hk => ⟨hk.1.2, ⟨hk.2, ⟨hk.1.1.1, ⟨hk.1.1.2.1, hk.1.1.2.2⟩⟩⟩⟩))), (ru (Kd.R_mono HO_01.out (fun _ hk => ⟨hk.1.2, ⟨hk.2, ⟨hk.1.1.1, ⟨hk.1.1.2.1, hk.1.1.2.2⟩⟩⟩⟩))), (nu (Kd.N_mono HO_04.out (fun _ hk => ⟨hk.1.2, ⟨hk.2, ⟨hk.1.1.1.1, ⟨hk.1.1.1.2.1, ⟨hk.1.1.1.2.2.1, ⟨hk.1.1.1.2.2.2.1, ⟨hk.1.1.1.2.2.2.2.1, ⟨hk.1.1.1.2.2.2.2.2.1, ⟨hk.1.1.1.2.2.2.2.2.2.1, ⟨hk.1.1.1.2.2.2.2.2.2.2, hk.1.1.2⟩⟩⟩⟩⟩⟩⟩⟩⟩⟩))), (bu BK554.out), (bu BK562.out), (bu BK569.out), (bu BK581.out), GW581.out, GE581.out, NB554_581.out, NB581_554.out, NB562_581.out, NB581_562.out, NB569_581.out, NB581_569.out, z3_11⟩)
       rintro ⟨v575, v578, gb581⟩ w97 ⟨hS_, h0_, h1_, h2_, h3_, h4_, h5_, h6_, h7_, h8_, h9_, h10_, h11_, h12_, h13_, h14_, h15_, h16_, h17_, h18_, h19_, h20_, h21_, h22_⟩
       have HL573_0 := am_ h0_
       have HL573_1 := am_ h1_
       have HO576 := am_ h2_
       have HO579 := am_ h3_
       replace HO_10 := am_ h4_
       replace HO_02 := am_ h5_
       replace HO_03 := am_ h6_
       replace HO_00 := am_ h7_
       replace HO_01 := am_ h8_
       replace HO_04 := am_ h9_
       replace BK554 := am_ h10_
       replace BK562 := am_ h11_
       replace BK569 := am_ h12_
       have BK581 := am_ h13_
       have GW581 := am_ h14_
       have GE581 := am_ h15_
       have NB554_581 := am_ h16_
       have NB581_554 := am_ h17_
       have NB562_581 := am_ h18_
       have NB581_562 := am_ h19_
       have NB569_581 := am_ h20_
       have NB581_569 := am_ h21_
       replace HB := am_ h22_
       clear h0_ h1_ h2_ h3_ h4_ h5_ h6_ h7_ h8_ h9_ h10_ h11_ h12_ h13_ h14_ h15_ h16_ h17_ h18_ h19_ h20_ h21_ h22_
       have hHeld : w97.cell? ⟨gb569, 0, none⟩ = some (.slice Ao41 t565.length co41) ∧ w97.cell? (ad573.add ((x11_2).toNat * 2)) = some (.slice A573_0 ((rd_T40 t570 x11_2).f0).length c573_0) ∧ w97.cell? ⟨(ad573.add ((x11_2).toNat * 2)).block, (ad573.add ((x11_2).toNat * 2)).off + 1, none⟩ = some (.slice A573_1 ((rd_T40 t570 x11_2).f1).length c573_1) := hS_
       obtain ⟨Ao98, co98, eo98⟩ := Kd.R_slice HO576.out
       (first | subst eo98 | (injection eo98 with f1_ f2_ f3_; have f4_ := f1_.symm; have f5_ := f3_.symm; clear f1_ f2_ f3_; subst f4_; subst f5_))
       obtain ⟨Ao100, co100, eo100⟩ := Kd.R_slice HO579.out
       (first | subst eo100 | (injection eo100 with f1_ f2_ f3_; have f4_ := f1_.symm; have f5_ := f3_.symm; clear f1_ f2_ f3_; subst f4_; subst f5_))
       refine norm_ (a' := ?_) ?_ ?_
       rotate_left
       ·simp only [putAll, Act.put, List.setIfInBounds_toArray, List.set_cons_zero, List.set_cons_succ]
        rfl
       refine one_ (i := 10) (N := none) #[true, true, true, true, true, true, true, true, true, true, true, false] rfl rfl (one_of HT_.out (by kernel_rfl)) (by decide) (fun K hK => ?_)
       have hs99 : w97.cell? ⟨gb581, 0, none⟩ = some (.slice none 0 0) := (blk_cell BK581.out 0).trans rfl
       have hfs99 := blk_frozen BK581.out 0
       have hns99_0 := NB554_581.out
       have hns99_1 := NB562_581.out
       have hns99_2 := NB569_581.out
       have hms99_0 := NB581_554.out
       have hms99_1 := NB581_562.out
       have hms99_2 := NB581_569.out
       have hs101 : w97.cell? ⟨gb581, 1, none⟩ = some (.slice none 0 0) := (blk_cell BK581.out 1).trans rfl
       have hfs101 := blk_frozen BK581.out 1
       have hns101_0 := NB554_581.out
       have hns101_1 := NB562_581.out
       have hns101_2 := NB569_581.out
       have hms101_0 := NB581_554.out
       have hms101_1 := NB581_562.out
       have hms101_2 := NB581_569.out
       refine skip_ (w1 := ?_) (by rfl) rfl ?_ ?_
       rotate_left
       ·go_simp
        rfl
       refine hK.out _ _ ⟨((cell_far (p := ⟨gb581, _, none⟩) NB569_581.out _).trans (((cell_far (p := ⟨gb581, _, none⟩) NB569_581.out _).trans (hHeld.1)))), ((cell_far (p := ⟨gb581, _, none⟩) z3_12 _).trans (((cell_far (p := ⟨gb581, _, none⟩) z3_12 _).trans (hHeld.2.1)))), ((cell_far (p := ⟨gb581, _, none⟩) z3_12 _).trans (((cell_far (p := ⟨gb581, _, none⟩) z3_12 _).trans (hHeld.2.2))))⟩ (fun hHeld => ?_)
       clear hK K
       refine pure_ (i := 11) (N := some 13) (v := ?_) (a' := ?_) #[true, true, true, true, true, true, true, true, true, true, true, true] rfl rfl (any_of HT_.out (by kernel_rfl)) (fun _ _ _ h => h) (Or.inl ⟨by rfl, ?_⟩) ?_ ?_
       rotate_left
       ·intro w'
        go_simp
        with_reducible rfl
       rotate_left
       ·simp only [Act.put, List.setIfInBounds_toArray, List.set_cons_zero, List.set_cons_succ, i64_w, i32_w]
        rfl
       refine done_ (done_of HT_.out (by kernel_rfl)) ?_
       have hnb102 := NB581_554.out
       have hnc102 := NB554_581.out
       have hnb103 := NB581_562.out
       have hnc103 := NB562_581.out
       have hnb104 := NB581_569.out
       have hnc104 := NB569_581.out
       have hcz105_0 := cf0 BK581.out
       have hcz105_1 := cf1 BK581.out
       have hfz105_0 := blk_frozen BK581.out 0
       have hfz105_1 := blk_frozen BK581.out 1
       have hnb106 := NB562_554.out
       have hnc106 := NB554_562.out
       have hnb107 := NB562_569.out
       have hnc107 := NB569_562.out
       have hcz108_0 := cf0 BK562.out
       have hcz108_1 := cf1 BK562.out
       have hfz108_0 := blk_frozen BK562.out 0
       have hfz108_1 := blk_frozen BK562.out 1
       try go_wp2_with (first | ((with_reducible refine gate_callee (f := 7) rfl ?_); refine goesL_ (some 74) rfl rfl Try.func7 (by kernel_rfl) rfl #[.agg #[.slice Ao98 t574.length co98, .slice Ao100 t577.length co100], .agg #[.slice Ao15 t555.length co15, .slice Ao18 t558.length co18]] rfl (by (try simp only [List.map_toArray, List.map_cons, List.map_nil]); first | done | rfl | (simp only [List.length_drop, List.length_take]; rfl)) ?_; (with_reducible refine (laws_lpSame.calls k2 _ _ t574 _ _ t577 _ _ t555 _ _ t558 false _ ?side1 ?side2 ?side3 ?side4 ?side5 ?side6 ?side7 ?side8 A51.out).mono ?_); (case side1 => refine (Kd.R_reads' (e := 3) (base := w.heap.size) (ok := fun k_ => (some k_ ≠ (.slice Ao100 t577.length co100 : Value).ownBlock ∧ (some k_ ≠ (.slice Ao10 t547.length co10 : Value).ownBlock ∧ (some k_ ≠ (.slice Ao12 t550.length co12 : Value).ownBlock ∧ (some k_ ≠ (.slice Ao15 t555.length co15 : Value).ownBlock ∧ some k_ ≠ (.slice Ao18 t558.length co18 : Value).ownBlock))))) (n := t574.length) (c := co98) ?_).2.2; exact (ru (Kd.R_mono (Kd.R_far (p := ⟨gb581, 1, none⟩) (Kd.R_far (p := ⟨gb581, 0, none⟩) (Kd.R_types HO576.out BK581.out (by decide)) (fun _ hk => hk.2) (.slice Ao98 t574.length co98)) (fun _ hk => hk.2) (.slice Ao100 t577.length co100)) (fun _ h_ => h_.1)))); (case side2 => exact (Kd.R_reads' HO576.out).2.1); (case side3 => refine (Kd.R_reads' (e := 3) (base := w.heap.size) (ok := fun k_ => (some k_ ≠ (.slice Ao98 t574.length co98 : Value).ownBlock ∧ (some k_ ≠ (.slice Ao10 t547.length co10 : Value).ownBlock ∧ (some k_ ≠ (.slice Ao12 t550.length co12 : Value).ownBlock ∧ (some k_ ≠ (.slice Ao15 t555.length co15 : Value).ownBlock ∧ some k_ ≠ (.slice Ao18 t558.length co18 : Value).ownBlock))))) (n := t577.length) (c := co100) ?_).2.2; exact (ru (Kd.R_mono (Kd.R_far (p := ⟨gb581, 1, none⟩) (Kd.R_far (p := ⟨gb581, 0, none⟩) (Kd.R_types HO579.out BK581.out (by decide)) (fun _ hk => hk.2) (.slice Ao98 t574.length co98)) (fun _ hk => hk.2) (.slice Ao100 t577.length co100)) (fun _ h_ => h_.1)))); (case side4 => exact (Kd.R_reads' HO579.out).2.1); (case side5 => refine (Kd.R_reads' (e := 3) (base := w.heap.size) (ok := fun k_ => (some k_ ≠ (.slice Ao98 t574.length co98 : Value).ownBlock ∧ (some k_ ≠ (.slice Ao100 t577.length co100 : Value).ownBlock ∧ (some k_ ≠ (.slice Ao10 t547.length co10 : Value).ownBlock ∧ (some k_ ≠ (.slice Ao12 t550.length co12 : Value).ownBlock ∧ some k_ ≠ (.slice Ao18 t558.length co18 : Value).ownBlock))))) (n := t555.length) (c := co15) ?_).2.2; exact (ru (Kd.R_mono (Kd.R_far (p := ⟨gb581, 1, none⟩) (Kd.R_far (p := ⟨gb581, 0, none⟩) (Kd.R_types HO_00.out BK581.out (by decide)) (fun _ hk => hk.2) (.slice Ao98 t574.length co98)) (fun _ hk => hk.2) (.slice Ao100 t577.length co100)) (fun _ h_ => h_.1)))); (case side6 => exact (Kd.R_reads' HO_00.out).2.1); (case side7 => refine (Kd.R_reads' (e := 3) (base := w.heap.size) (ok := fun k_ => (some k_ ≠ (.slice Ao98 t574.length co98 : Value).ownBlock ∧ (some k_ ≠ (.slice Ao100 t577.length co100 : Value).ownBlock ∧ (some k_ ≠ (.slice Ao10 t547.length co10 : Value).ownBlock ∧ (some k_ ≠ (.slice Ao12 t550.length co12 : Value).ownBlock ∧ some k_ ≠ (.slice Ao15 t555.length co15 : Value).ownBlock))))) (n := t558.length) (c := co18) ?_).2.2; exact (ru (Kd.R_mono (Kd.R_far (p := ⟨gb581, 1, none⟩) (Kd.R_far (p := ⟨gb581, 0, none⟩) (Kd.R_types HO_01.out BK581.out (by decide)) (fun _ hk => hk.2) (.slice Ao98 t574.length co98)) (fun _ hk => hk.2) (.slice Ao100 t577.length co100)) (fun _ h_ => h_.1)))); (case side8 => exact (Kd.R_reads' HO_01.out).2.1); rintro e w109 ⟨rfl, hb⟩; refine ⟨_, rfl, ?_⟩; replace HO_10 := am_ (Kd.N_below (nu (Kd.N_mono (Kd.N_far (p := ⟨gb581, 1, none⟩) (Kd.N_far (p := ⟨gb581, 0, none⟩) (Kd.N_mono HO_10.out (fun k_ hk => (⟨hk, hk.2.2.2.2.2.2.2.2.2⟩ : _ ∧ k_ ≠ gb581))) (fun _ hk => hk.2) (.slice Ao98 t574.length co98)) (fun _ hk => hk.2) (.slice Ao100 t577.length co100)) (fun _ h_ => h_.1))) hb); replace HO_02 := am_ (Kd.R_below (ru (Kd.R_mono (Kd.R_far (p := ⟨gb581, 1, none⟩) (Kd.R_far (p := ⟨gb581, 0, none⟩) (Kd.R_types HO_02.out BK581.out (by decide)) (fun _ hk => hk.2) (.slice Ao98 t574.length co98)) (fun _ hk => hk.2) (.slice Ao100 t577.length co100)) (fun _ h_ => h_.1))) hb); replace HO_03 := am_ (Kd.R_below (ru (Kd.R_mono (Kd.R_far (p := ⟨gb581, 1, none⟩) (Kd.R_far (p := ⟨gb581, 0, none⟩) (Kd.R_types HO_03.out BK581.out (by decide)) (fun _ hk => hk.2) (.slice Ao98 t574.length co98)) (fun _ hk => hk.2) (.slice Ao100 t577.length co100)) (fun _ h_ => h_.1))) hb); replace HO_00 := am_ (Kd.R_below (ru (Kd.R_mono (Kd.R_far (p := ⟨gb581, 1, none⟩) (Kd.R_far (p := ⟨gb581, 0, none⟩) (Kd.R_types HO_00.out BK581.out (by decide)) (fun _ hk => hk.2) (.slice Ao98 t574.length co98)) (fun _ hk => hk.2) (.slice Ao100 t577.length co100)) (fun _ h_ => h_.1))) hb); replace HO_01 := am_ (Kd.R_below (ru (Kd.R_mono (Kd.R_far (p := ⟨gb581, 1, none⟩) (Kd.R_far (p := ⟨gb581, 0, none⟩) (Kd.R_types HO_01.out BK581.out (by decide)) (fun _ hk => hk.2) (.slice Ao98 t574.length co98)) (fun _ hk => hk.2) (.slice Ao100 t577.length co100)) (fun _ h_ => h_.1))) hb); replace HO_04 := am_ (Kd.N_below (nu (Kd.N_mono (Kd.N_far (p := ⟨gb581, 1, none⟩) (Kd.N_far (p := ⟨gb581, 0, none⟩) (Kd.N_mono HO_04.out (fun k_ hk => (⟨hk, hk.2.2.2.2.2.2.2.2.2.2⟩ : _ ∧ k_ ≠ gb581))) (fun _ hk => hk.2) (.slice Ao98 t574.length co98)) (fun _ hk => hk.2) (.slice Ao100 t577.length co100)) (fun _ h_ => h_.1))) hb); replace HL573_0 := am_ (Kd.V_below (vu (Kd.V_mono (Kd.V_far (p := ⟨gb581, 1, none⟩) (Kd.V_far (p := ⟨gb581, 0, none⟩) (Kd.V_mono HL573_0.out (fun k_ hk => (⟨hk, hk.2.2.2.2.2.2.2.2.2.2⟩ : _ ∧ k_ ≠ gb581))) (fun _ hk => hk.2) (.slice Ao98 t574.length co98)) (fun _ hk => hk.2) (.slice Ao100 t577.length co100)) (fun _ h_ => h_.1))) hb); replace HL573_1 := am_ (Kd.V_below (vu (Kd.V_mono (Kd.V_far (p := ⟨gb581, 1, none⟩) (Kd.V_far (p := ⟨gb581, 0, none⟩) (Kd.V_mono HL573_1.out (fun k_ hk => (⟨hk, hk.2.2.2.2.2.2.2.2.2.2⟩ : _ ∧ k_ ≠ gb581))) (fun _ hk => hk.2) (.slice Ao98 t574.length co98)) (fun _ hk => hk.2) (.slice Ao100 t577.length co100)) (fun _ h_ => h_.1))) hb); replace HO576 := am_ (Kd.R_below (ru (Kd.R_mono (Kd.R_far (p := ⟨gb581, 1, none⟩) (Kd.R_far (p := ⟨gb581, 0, none⟩) (Kd.R_types HO576.out BK581.out (by decide)) (fun _ hk => hk.2) (.slice Ao98 t574.length co98)) (fun _ hk => hk.2) (.slice Ao100 t577.length co100)) (fun _ h_ => h_.1))) hb); replace HO579 := am_ (Kd.R_below (ru (Kd.R_mono (Kd.R_far (p := ⟨gb581, 1, none⟩) (Kd.R_far (p := ⟨gb581, 0, none⟩) (Kd.R_types HO579.out BK581.out (by decide)) (fun _ hk => hk.2) (.slice Ao98 t574.length co98)) (fun _ hk => hk.2) (.slice Ao100 t577.length co100)) (fun _ h_ => h_.1))) hb); replace BK554 := am_ (blk_below (g := gb554) (o := .cells #[.slice Ao10 t547.length co10, .slice Ao12 t550.length co12] 26 (0, 0)) z3_14 hb); replace BK562 := am_ (blk_below (g := gb562) (o := .cells #[.slice Ao15 t555.length co15, .slice Ao18 t558.length co18] 26 (0, 0)) z3_15 hb); replace BK569 := am_ (blk_below (g := gb569) (o := .cells #[.slice Ao41 t565.length co41] 32 (0, 0)) z3_16 hb); replace BK581 := am_ (blk_below (g := gb581) (o := .cells #[.slice Ao98 t574.length co98, .slice Ao100 t577.length co100] 26 (0, 0)) (by (with_reducible repeat (first | refine blk_drewN ?_ _ | refine blk_drew ?_ | refine blk_alloc ?_ _)); refine blk_put (cs := #[.slice Ao98 t574.length co98, .slice none 0 0]) ?_ 1 _ rfl; (with_reducible repeat (first | refine blk_drewN ?_ _ | refine blk_drew ?_ | refine blk_alloc ?_ _)); refine blk_put (cs := #[.slice none 0 0, .slice none 0 0]) ?_ 0 _ rfl; (with_reducible repeat (first | refine blk_drewN ?_ _ | refine blk_drew ?_ | refine blk_alloc ?_ _)); exact BK581.out) hb); replace HB := am_ (below_step z3_11 hb); (try clear hb); (try clear hb2); (try clear hk); (try clear hi)))
       go_roundg k2
       case measure => have := HJ5.out; have := HK2.out; omega
       case rel => exact ⟨(wrap64 (x11_2 + 1)), z3_1, H', ⟨by have := HJ5.out; have := HK2.out; omega⟩, ⟨nu (Kd.N_mono HO_10.out (fun _ hk => ⟨hk.2.2.1, ⟨hk.2.2.2.1, ⟨hk.2.2.2.2.1, ⟨hk.2.2.2.2.2.1, ⟨hk.2.2.2.2.2.2.1, ⟨hk.2.2.2.2.2.2.2.1, hk.2.2.2.2.2.2.2.2.1⟩⟩⟩⟩⟩⟩))⟩, ⟨ru (Kd.R_mono HO_02.out (fun _ hk => ⟨hk.2.2.1, ⟨hk.2.2.2.1, hk.2.2.2.2⟩⟩))⟩, ⟨ru (Kd.R_mono HO_03.out (fun _ hk => ⟨hk.2.2.1, ⟨hk.2.2.2.1, hk.2.2.2.2⟩⟩))⟩, ⟨ru (Kd.R_mono HO_00.out (fun _ hk => ⟨hk.2.2.1, ⟨hk.2.2.2.1, hk.2.2.2.2⟩⟩))⟩, ⟨ru (Kd.R_mono HO_01.out (fun _ hk => ⟨hk.2.2.1, ⟨hk.2.2.2.1, hk.2.2.2.2⟩⟩))⟩, ⟨nu (Kd.N_mono HO_04.out (fun _ hk => ⟨hk.2.2.1, ⟨hk.2.2.2.1, ⟨hk.2.2.2.2.1, ⟨hk.2.2.2.2.2.1, ⟨hk.2.2.2.2.2.2.1, ⟨hk.2.2.2.2.2.2.2.1, ⟨hk.2.2.2.2.2.2.2.2.1, hk.2.2.2.2.2.2.2.2.2.1⟩⟩⟩⟩⟩⟩⟩))⟩, ⟨bu BK554.out⟩, ⟨bu BK562.out⟩, ⟨bu BK569.out⟩, ⟨z3_11⟩⟩
      rw [if_neg c49] at H
      exact absurd H (by simp)
     rw [if_neg c48] at H
     have c48b0 : decide (x11_2 < (t570.length : Int)) = false := decide_eq_false c48
     clear c48
     obtain rfl := Option.some.inj H
     obtain ⟨Ao110, co110, eo110⟩ := Kd.N_slice HO_10.out
     subst eo110
     go_wp2
     go_ret
     exact ⟨z3_3, z3_10⟩

/-- THE ONE PURE STATEMENT of laws_FnShapeOdd: yours. -/
def laws_FnShapeOdd.Pure : Prop := ∀ (l0 : List Int), l0.length ≤ maxLen → l0.length * 1 ≤ 140737488351232 → (∀ x ∈ l0, (Lit.int .u8 x).wf = true) → ∃ k, laws_FnShapeOdd.f k l0 = some true
theorem laws_FnShapeOdd.walk (P : laws_FnShapeOdd.Pure) (a0 : Option Addr) (len0 cap0 : Nat) (z0 : List Int) (w : World) (w0 : (a0 = none ∧ len0 = 0 ∧ cap0 = 0 ∧ z0 = []) ∨ ∃ x, a0 = some x ∧ len0 ≤ cap0 ∧ cap0 ≤ maxLen ∧ z0.length = cap0 ∧ (∀ i, i < z0.length → w.cell? (x.add i) = some (.int .u8 (z0.getD i 0))) ∧ ∀ n ∈ z0, (Lit.int .u8 n).wf = true) (y0 : len0 * 1 ≤ 140737488351232) :
  Calls Try.prog 3 #[.slice a0 len0 cap0] w fun e w' => e = .returned (.bool true) ∧ Below w.heap.size w w' := by
 obtain ⟨l0, rfl, hr0, hm0, hw0, hc0⟩ := ReadsInt.ofRowC w0
 obtain ⟨k, h⟩ := P l0 hm0 y0 hw0
 refine (laws_FnShapeOdd.calls k _ _ l0 true w (Kd.C_of_reads (d := (0 : Int)) (h1 := fun _ => rfl) hr0) hc0 h).mono ?_
 rintro e w' ⟨rfl, hd⟩
 exact ⟨rfl, hd⟩

end Go.Proofs.Ytmkchdlkpbnldaa.PB

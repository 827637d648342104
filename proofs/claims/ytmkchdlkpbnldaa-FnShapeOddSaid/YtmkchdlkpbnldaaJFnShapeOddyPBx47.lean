-- Written by this session's wip/myprint.py (the kit's print.py, with hand-written chunks). Lean checks it.
import Derived.Test.YtmkchdlkpbnldaaPBx0
import Derived.Test.YtmkchdlkpbnldaaPBx16
import Derived.Test.YtmkchdlkpbnldaaPBx31
import Derived.Test.YtmkchdlkpbnldaaJFnShapeOddx2
import Derived.Test.YtmkchdlkpbnldaaJFnShapeOddySort
namespace Go.Proofs.Ytmkchdlkpbnldaa.PB
open Go.RowKit Go.Proofs.YtmkchdlkpbnldaaW.PrintWords Go.Proofs.YtmkchdlkpbnldaaW.PrintLast Go.Proofs.YtmkchdlkpbnldaaW.PrintMore
attribute [local go_sem] max2_int min2_int max_two min_two max_three min_three max_four min_four   -- for this text's walks alone
open Go.Proofs.YtmkchdlkpbnldaaMine
set_option linter.unusedVariables false
set_option linter.unusedSimpArgs false

theorem z47_1 {p : Prop} (h : p := by first | rfl | (simp; done) | (simp [*]; done)) : p := h
theorem z47_2 {p : Prop} (h : p := by first | (with_reducible assumption) | assumption) : p := h
theorem z47_3 {p : Prop} (h : p := by first | rfl | (simp [errW_none, errW_some] <;> rfl) | (simp [*, errW_none, errW_some] <;> rfl)) : p := h
theorem z47_4 {p : Prop} (h : p := by repeat (first | (with_reducible first | exact HB.out | apply below_alloc | apply pw_below_drewN | apply below_drew1) | exact HB.out)) : p := h
theorem z47_5 {p : Prop} (h : p := by repeat (first | (with_reducible first | exact HB.out | apply below_alloc | apply pw_below_drewN | apply below_drew1 | refine below_set ?_ GE412.out) | exact HB.out)) : p := h
theorem z47_6 {p : Prop} (h : p := by repeat (first | (with_reducible first | exact HB.out | apply below_alloc | apply pw_below_drewN | apply below_drew1 | refine below_set ?_ GE412.out | refine below_set ?_ GE413.out) | exact HB.out)) : p := h
theorem z47_7 {p : Prop} (h : p := by repeat (first | (with_reducible first | exact HB.out | apply below_alloc | apply pw_below_drewN | apply below_drew1 | refine below_set ?_ GE412.out | refine below_set ?_ GE413.out | refine below_set ?_ GE416.out) | exact HB.out)) : p := h
theorem z47_8 {p : Prop} (h : p := by (with_reducible repeat (first | refine blk_drewN ?_ _ | refine blk_drew ?_ | refine blk_alloc ?_ _)); refine blk_far ?_ NB412_416.out _; (with_reducible repeat (first | refine blk_drewN ?_ _ | refine blk_drew ?_ | refine blk_alloc ?_ _)); refine blk_far ?_ NB412_416.out _; (with_reducible repeat (first | refine blk_drewN ?_ _ | refine blk_drew ?_ | refine blk_alloc ?_ _)); refine blk_far ?_ NB412_416.out _; (with_reducible repeat (first | refine blk_drewN ?_ _ | refine blk_drew ?_ | refine blk_alloc ?_ _)); exact BK412.out) : p := h
theorem z47_9 {p : Prop} (h : p := by (with_reducible repeat (first | refine blk_drewN ?_ _ | refine blk_drew ?_ | refine blk_alloc ?_ _)); refine blk_far ?_ NB413_416.out _; (with_reducible repeat (first | refine blk_drewN ?_ _ | refine blk_drew ?_ | refine blk_alloc ?_ _)); refine blk_far ?_ NB413_416.out _; (with_reducible repeat (first | refine blk_drewN ?_ _ | refine blk_drew ?_ | refine blk_alloc ?_ _)); refine blk_far ?_ NB413_416.out _; (with_reducible repeat (first | refine blk_drewN ?_ _ | refine blk_drew ?_ | refine blk_alloc ?_ _)); exact BK413.out) : p := h
theorem z47_10 {p : Prop} (h : p := by (with_reducible repeat (first | refine blk_drewN ?_ _ | refine blk_drew ?_ | refine blk_alloc ?_ _)); refine blk_put (cs := #[.int .i64 ((rd_T70 l0_2 x26_2).f0), .int .i64 ((rd_T70 l0_2 x26_2).f1), .int .i64 0]) ?_ 2 _ rfl; (with_reducible repeat (first | refine blk_drewN ?_ _ | refine blk_drew ?_ | refine blk_alloc ?_ _)); refine blk_put (cs := #[.int .i64 ((rd_T70 l0_2 x26_2).f0), .int .i64 0, .int .i64 0]) ?_ 1 _ rfl; (with_reducible repeat (first | refine blk_drewN ?_ _ | refine blk_drew ?_ | refine blk_alloc ?_ _)); refine blk_put (cs := #[.int .i64 0, .int .i64 0, .int .i64 0]) ?_ 0 _ rfl; (with_reducible repeat (first | refine blk_drewN ?_ _ | refine blk_drew ?_ | refine blk_alloc ?_ _)); exact BK416.out) : p := h
/-! ### impl_scene_fits: function 47 -/
mutual
def impl_scene_fits.j0 : Nat → Bool → List (List (S70)) → List (S80) → List (S70) → List Int → List (List Int) → Option (Bool)
  | 0, _, _, _, _, _, _ => none
  | k + 1, x22, x01, x02, x00, x03, x04 => if x22 = true then (some false) else (impl_scene_fits.l0 k x03 (x03.length : Int) 0 x01 x02 x00 x03 x04)
def impl_scene_fits.l0 : Nat → List Int → Int → Int → List (List (S70)) → List (S80) → List (S70) → List Int → List (List Int) → Option (Bool)
  | 0, _, _, _, _, _, _, _, _ => none
  | k + 1, x24, x25, x26, x01, x02, x00, x03, x04 => if x26 < x25 then (if 0 ≤ x26 then (if x26 < (x24.length : Int) then (if x26 < (x00.length : Int) then ((impl_Do_reads.f ((rd_T70 x00 x26).f0) ((rd_T70 x00 x26).f1) ((rd_T70 x00 x26).f2)).bind fun t417 => (if t417 = true then (if (rd x24 x26) = (-1) then (impl_scene_fits.l0 k x24 x25 (wrap64 (x26 + 1)) x01 x02 x00 x03 x04) else ((impl_scene_writers.f k x01 x02 x00 ((rd_T70 x00 x26).f1)).bind fun t418 => ((slices_Contains_int_int.f k t418 (rd x24 x26)).bind fun t421 => (if t421 = true then (impl_scene_fits.l0 k x24 x25 (wrap64 (x26 + 1)) x01 x02 x00 x03 x04) else (some false))))) else (if (rd x24 x26) = (-2) then (impl_scene_fits.l0 k x24 x25 (wrap64 (x26 + 1)) x01 x02 x00 x03 x04) else (some false)))) else (none)) else (none)) else (none)) else (impl_scene_fits.l1 k x04 (x04.length : Int) 0 x01 x02 x00)
def impl_scene_fits.l1 : Nat → List (List Int) → Int → Int → List (List (S70)) → List (S80) → List (S70) → Option (Bool)
  | 0, _, _, _, _, _, _ => none
  | k + 1, x56, x57, x58, x01, x02, x00 => if x58 < x57 then (if 0 ≤ x58 then (if x58 < (x56.length : Int) then ((slices_Clone_int_int_16.f (rd_L5 x56 x58)).bind fun t423 => ((sorted_int.f k t423).bind fun t426 => ((impl_scene_writers.f k x01 x02 x00 x58).bind fun t429 => ((slices_Equal_int_int.f k t426 t429).bind fun t432 => (if t432 = true then (impl_scene_fits.l1 k x56 x57 (wrap64 (x58 + 1)) x01 x02 x00) else (some false)))))) else (none)) else (none)) else (some true)
end
def impl_scene_fits.f (k : Nat) (l0_0 : List (List (S70))) (l0_1 : List (S80)) (l0_2 : List (S70)) (l1_0 : List Int) (l1_1 : List (List Int)) : Option (Bool) := if (l1_0.length : Int) = (l0_1.length : Int) then (impl_scene_fits.j0 k ((l1_1.length : Int) != 3) l0_0 l0_1 l0_2 l1_0 l1_1) else (impl_scene_fits.j0 k true l0_0 l0_1 l0_2 l1_0 l1_1)
def impl_scene_fits.T16 : Bool × List (List Nat × List Nat) := (true, [([], []), ([0], [0]), ([1, 1], [1]), ([], []), ([], []), ([3, 4, 2], [3, 4]), ([2, 5, 5], [2, 5]), ([6], [6])])
def impl_scene_fits.B16 : List Nat := [0, 1, 3, 0, 0, 31, 63, 127]
theorem impl_scene_fits.tab16 : rtab .any (opsOf Try.f47 16) = impl_scene_fits.T16 := by kernel_rfl
theorem impl_scene_fits.bits16 : waitsOk impl_scene_fits.T16.2 impl_scene_fits.B16 = true := by kernel_rfl
set_option maxHeartbeats 8000000 in
set_option maxRecDepth 100000 in
theorem impl_scene_fits.calls (k : Nat) (A0_0 : Option Addr) (c0_0 : Nat) (l0_0 : List (List (S70))) (A0_1 : Option Addr) (c0_1 : Nat) (l0_1 : List (S80)) (A0_2 : Option Addr) (c0_2 : Nat) (l0_2 : List (S70)) (A1_0 : Option Addr) (c1_0 : Nat) (l1_0 : List Int) (A1_1 : Option Addr) (c1_1 : Nat) (l1_1 : List (List Int)) (r : Bool) (w : World) (hr0_0 : Kd.C (Kd.slice 70 k70) w A0_0 l0_0.length l0_0) (hc0_0 : l0_0.length ≤ c0_0) (hr0_1 : Kd.C k80 w A0_1 l0_1.length l0_1) (hc0_1 : l0_1.length ≤ c0_1) (hr0_2 : Kd.C k70 w A0_2 l0_2.length l0_2) (hc0_2 : l0_2.length ≤ c0_2) (hr1_0 : Kd.C (Kd.int .i64) w A1_0 l1_0.length l1_0) (hc1_0 : l1_0.length ≤ c1_0) (hr1_1 : Kd.C (Kd.slice 3 (Kd.int .i64)) w A1_1 l1_1.length l1_1) (hc1_1 : l1_1.length ≤ c1_1) (h : impl_scene_fits.f k l0_0 l0_1 l0_2 l1_0 l1_1 = some r) :
  Calls Try.prog 47 #[.agg #[.slice A0_0 l0_0.length c0_0, .slice A0_1 l0_1.length c0_1, .slice A0_2 l0_2.length c0_2], .agg #[.slice A1_0 l1_0.length c1_0, .slice A1_1 l1_1.length c1_1]] w fun e w' => e = .returned (.bool r) ∧ Below w.heap.size w w' := by
 have hu60 := Try.underlying60
 have hu40 := Try.underlying40
 have hu70 := Try.underlying70
 have HR0_0 := am_ hr0_0
 have HC0_0 := am_ hc0_0
 clear hr0_0 hc0_0
 have HR0_1 := am_ hr0_1
 have HC0_1 := am_ hc0_1
 clear hr0_1 hc0_1
 have HR0_2 := am_ hr0_2
 have HC0_2 := am_ hc0_2
 clear hr0_2 hc0_2
 have HR1_0 := am_ hr1_0
 have HC1_0 := am_ hc1_0
 clear hr1_0 hc1_0
 have HR1_1 := am_ hr1_1
 have HC1_1 := am_ hc1_1
 clear hr1_1 hc1_1
 have HB := am_ (Below.refl w.heap.size w)
 have H : (if (l1_0.length : Int) = (l0_1.length : Int) then (impl_scene_fits.j0 k ((l1_1.length : Int) != 3) l0_0 l0_1 l0_2 l1_0 l1_1) else (impl_scene_fits.j0 k true l0_0 l0_1 l0_2 l1_0 l1_1)) = some r := h
 clear h
 have HC3 := am_ H
 clear H
 go_enter Try.func47, Try.ntmps47
 go_upto_region 1 with (first | ((with_reducible refine gate_dst (N := 2) rfl ?_); (try (refine gate_guard (by rfl) ?_; dsimp only)); refine box_event ?hg (N := 2) ?hd (cs := #[.slice A0_0 l0_0.length c0_0, .slice A0_1 l0_1.length c0_1, .slice A0_2 l0_2.length c0_2]) (t := 60) ?hr ?_; (case hd => rfl); (case hg => rfl); (case hr => first | (go_simp; done) | (go_simp; rfl)); intro gb412 hg w4 hbox hb; have n0_ := am_ (below_step z47_4 hb); have n1_ := am_ (hbox); have n2_ := am_ (by rw [hg]; exact (below_size z47_4) : w.heap.size ≤ gb412); have n3_ := am_ (by rw [hg]; exact (below_size z47_4) : w.heap.size ≤ gb412); clear HB; have HB := n0_; have BK412 := n1_; have GW412 := n2_; have GE412 := n3_; clear n0_ n1_ n2_ n3_; clear hb hbox hg) | ((with_reducible refine gate_dst (N := 3) rfl ?_); (try (refine gate_guard (by rfl) ?_; dsimp only)); refine box_event ?hg (N := 3) ?hd (cs := #[.slice A1_0 l1_0.length c1_0, .slice A1_1 l1_1.length c1_1]) (t := 40) ?hr ?_; (case hd => rfl); (case hg => rfl); (case hr => first | (go_simp; done) | (go_simp; rfl)); intro gb413 hg w5 hbox hb; have n0_ := am_ (blk_below (bu BK412.out) hb); have n1_ := am_ (below_step z47_5 hb); have n2_ := am_ (hbox); have n3_ := am_ (by rw [hg]; exact (below_size z47_5) : w.heap.size ≤ gb413); have n4_ := am_ (by rw [hg]; exact (below_size z47_5) : w.heap.size ≤ gb413); have n5_ := am_ (by rw [hg]; exact Nat.ne_of_lt (blk_lt (bu BK412.out)) : gb412 ≠ gb413); have n6_ := am_ (by rw [hg]; exact Nat.ne_of_gt (blk_lt (bu BK412.out)) : gb413 ≠ gb412); clear BK412 HB; have BK412 := n0_; have HB := n1_; have BK413 := n2_; have GW413 := n3_; have GE413 := n4_; have NB412_413 := n5_; have NB413_412 := n6_; clear n0_ n1_ n2_ n3_ n4_ n5_ n6_; clear hb hbox hg))
 (try simp only [Act.put, List.setIfInBounds_toArray, List.set_cons_zero, List.set_cons_succ])
 go_cut [22] (fun v22 wc => ∃ (kq : Nat) (x22_2 : Bool), v22 = .bool x22_2 ∧ Aside0 (impl_scene_fits.j0 kq x22_2 l0_0 l0_1 l0_2 l1_0 l1_1 = some r) ∧ Aside0 (kq ≤ k) ∧ Aside0 (wc.heap[gb412]? = some (.cells #[(.slice A0_0 l0_0.length c0_0), (.slice A0_1 l0_1.length c0_1), (.slice A0_2 l0_2.length c0_2)] 60 (0, 0))) ∧ Aside0 (wc.heap[gb413]? = some (.cells #[(.slice A1_0 l1_0.length c1_0), (.slice A1_1 l1_1.length c1_1)] 40 (0, 0))) ∧ Aside0 (Below w.heap.size w wc))
 case first =>
  have H := HC3.out
  clear HC3
  by_cases c6 : (l1_0.length : Int) = (l0_1.length : Int)
  ·rw [if_pos c6] at H
   have c6b0 : ((l1_0.length : Int) == (l0_1.length : Int)) = true := beq_iff_eq.mpr c6
   have c6b1 : ((l1_0.length : Int) != (l0_1.length : Int)) = false := bne_eq_false_iff_eq.mpr c6
   have c6b2 : (l1_0.length == l0_1.length) = true := by first | simpa using c6 | (simp at c6 ⊢; omega)
   clear c6
   (first | rw [c6b0] | (simp only [i64_w, i32_w]; rw [c6b0]) | skip)
   have H' := am_ H
   clear H
   have hnb7 := NB413_412.out
   have hnc7 := NB412_413.out
   have hcz8_0 := cf0 BK413.out
   have hcz8_1 := cf1 BK413.out
   have hfz8_0 := blk_frozen BK413.out 0
   have hfz8_1 := blk_frozen BK413.out 1
   have hcz9_0 := cf0 BK412.out
   have hcz9_1 := cf1 BK412.out
   have hcz9_2 := cf2 BK412.out
   have hfz9_0 := blk_frozen BK412.out 0
   have hfz9_1 := blk_frozen BK412.out 1
   have hfz9_2 := blk_frozen BK412.out 2
   go_wp2
   go_meet
   case rel => exact ⟨_, (((l1_1.length : Int) != 3)), z47_1, H', ⟨by first | omega | exact Nat.le_refl _⟩, ⟨bu BK412.out⟩, ⟨bu BK413.out⟩, ⟨z47_6⟩⟩
  rw [if_neg c6] at H
  have c6b0 : ((l1_0.length : Int) == (l0_1.length : Int)) = false := beq_eq_false_iff_ne.mpr c6
  have c6b1 : ((l1_0.length : Int) != (l0_1.length : Int)) = true := bne_iff_ne.mpr c6
  have c6b2 : (l1_0.length == l0_1.length) = false := by first | simpa using c6 | (simp at c6 ⊢; omega)
  (first | rw [c6b0] | (simp only [i64_w, i32_w]; rw [c6b0]) | skip)
  have H' := am_ H
  clear H
  have hnb10 := NB413_412.out
  have hnc10 := NB412_413.out
  have hcz11_0 := cf0 BK413.out
  have hcz11_1 := cf1 BK413.out
  have hfz11_0 := blk_frozen BK413.out 0
  have hfz11_1 := blk_frozen BK413.out 1
  have hcz12_0 := cf0 BK412.out
  have hcz12_1 := cf1 BK412.out
  have hcz12_2 := cf2 BK412.out
  have hfz12_0 := blk_frozen BK412.out 0
  have hfz12_1 := blk_frozen BK412.out 1
  have hfz12_2 := blk_frozen BK412.out 2
  go_wp2
  go_meet
  case rel => exact ⟨_, (true), z47_1, H', ⟨by first | omega | exact Nat.le_refl _⟩, ⟨bu BK412.out⟩, ⟨bu BK413.out⟩, ⟨z47_6⟩⟩
 case rest =>
  clear HC3
  obtain ⟨kq, x22_2, rfl, HA, HJ2, BK412, BK413, HB⟩ := hcut
  cases kq with
  | zero => exact absurd HA.out (by simp [impl_scene_fits.j0])
  | succ kj2 =>
   have H := HA.out
   clear HA
   simp only [impl_scene_fits.j0] at H
   by_cases c13 : x22_2 = true
   ·subst c13
    have H1 : (some false) = some r := by rw [if_pos rfl] at H; exact H
    clear H
    have H := H1
    clear H1
    obtain rfl := Option.some.inj H
    go_wp2
    go_ret
    exact ⟨z47_3, z47_6⟩
   replace c13 := Bool.eq_false_iff.mpr c13
   subst c13
   have H1 : (impl_scene_fits.l0 kj2 l1_0 (l1_0.length : Int) 0 l0_0 l0_1 l0_2 l1_0 l1_1) = some r := by rw [if_neg (show ¬ (false = true) by decide)] at H; exact H
   clear H
   have H := H1
   clear H1
   have H' := am_ H
   clear H
   have hnb14 := NB413_412.out
   have hnc14 := NB412_413.out
   have hcz15_0 := cf0 BK413.out
   have hcz15_1 := cf1 BK413.out
   have hfz15_0 := blk_frozen BK413.out 0
   have hfz15_1 := blk_frozen BK413.out 1
   go_wp2
   go_loopg [26] kj2 (fun kq v26 w' => ∃ (x26_2 : Int), v26 = .int .i64 x26_2 ∧ Aside0 (impl_scene_fits.l0 kq l1_0 (l1_0.length : Int) x26_2 l0_0 l0_1 l0_2 l1_0 l1_1 = some r) ∧ Aside0 (kq ≤ kj2) ∧ Aside0 (w'.heap[gb412]? = some (.cells #[(.slice A0_0 l0_0.length c0_0), (.slice A0_1 l0_1.length c0_1), (.slice A0_2 l0_2.length c0_2)] 60 (0, 0))) ∧ Aside0 (w'.heap[gb413]? = some (.cells #[(.slice A1_0 l1_0.length c1_0), (.slice A1_1 l1_1.length c1_1)] 40 (0, 0))) ∧ Aside0 (Below w.heap.size w w'))
   case atStart => exact ⟨(0), z47_1, H', ⟨Nat.le_refl _⟩, ⟨bu BK412.out⟩, ⟨bu BK413.out⟩, ⟨z47_6⟩⟩
   case round =>
    clear H'
    obtain ⟨x26_2, rfl, HA, HK2, BK412, BK413, HB⟩ := hrel
    cases gk with
    | zero => exact absurd HA.out (by simp [impl_scene_fits.l0])
    | succ k2 =>
     have H := HA.out
     clear HA
     simp only [impl_scene_fits.l0] at H
     by_cases c16 : x26_2 < (l1_0.length : Int)
     ·rw [if_pos c16] at H
      have c16b0 : decide (x26_2 < (l1_0.length : Int)) = true := decide_eq_true c16
      clear c16
      by_cases c17 : 0 ≤ x26_2
      ·rw [if_pos c17] at H
       have c17b0 : decide (0 ≤ x26_2) = true := decide_eq_true c17
       clear c17
       by_cases c18 : x26_2 < (l1_0.length : Int)
       ·rw [if_pos c18] at H
        have c18b0 : decide (x26_2 < (l1_0.length : Int)) = true := decide_eq_true c18
        clear c18
        by_cases c19 : x26_2 < (l0_2.length : Int)
        ·rw [if_pos c19] at H
         have c19b0 : decide (x26_2 < (l0_2.length : Int)) = true := decide_eq_true c19
         clear c19
         replace H := Option.bind_eq_some_iff.mp H
         obtain ⟨t417, A200, H⟩ := H
         replace H : (if t417 = true then (if (rd l1_0 x26_2) = (-1) then (impl_scene_fits.l0 k2 l1_0 (l1_0.length : Int) (wrap64 (x26_2 + 1)) l0_0 l0_1 l0_2 l1_0 l1_1) else ((impl_scene_writers.f k2 l0_0 l0_1 l0_2 ((rd_T70 l0_2 x26_2).f1)).bind fun t418 => ((slices_Contains_int_int.f k2 t418 (rd l1_0 x26_2)).bind fun t421 => (if t421 = true then (impl_scene_fits.l0 k2 l1_0 (l1_0.length : Int) (wrap64 (x26_2 + 1)) l0_0 l0_1 l0_2 l1_0 l1_1) else (some false))))) else (if (rd l1_0 x26_2) = (-2) then (impl_scene_fits.l0 k2 l1_0 (l1_0.length : Int) (wrap64 (x26_2 + 1)) l0_0 l0_1 l0_2 l1_0 l1_1) else (some false))) = some r := H
         have A20 := am_ A200
         clear A200
         by_cases c21 : t417 = true
         ·subst c21
          have H1 : (if (rd l1_0 x26_2) = (-1) then (impl_scene_fits.l0 k2 l1_0 (l1_0.length : Int) (wrap64 (x26_2 + 1)) l0_0 l0_1 l0_2 l1_0 l1_1) else ((impl_scene_writers.f k2 l0_0 l0_1 l0_2 ((rd_T70 l0_2 x26_2).f1)).bind fun t418 => ((slices_Contains_int_int.f k2 t418 (rd l1_0 x26_2)).bind fun t421 => (if t421 = true then (impl_scene_fits.l0 k2 l1_0 (l1_0.length : Int) (wrap64 (x26_2 + 1)) l0_0 l0_1 l0_2 l1_0 l1_1) else (some false))))) = some r := by rw [if_pos rfl] at H; exact H
          clear H
          have H := H1
          clear H1
          by_cases c22 : (rd l1_0 x26_2) = (-1)
          ·rw [if_pos c22] at H
           have c22b0 : ((rd l1_0 x26_2) == (-1)) = true := beq_iff_eq.mpr c22
           have c22b1 : ((rd l1_0 x26_2) != (-1)) = false := bne_eq_false_iff_eq.mpr c22
           clear c22
           have H' := am_ H
           clear H
           have p414 : 0 ≤ (x26_2 : Int) := of_decide_eq_true z47_2
           have q414 : x26_2 < (l1_0.length : Int) := of_decide_eq_true z47_2
           obtain ⟨ad414, e414, hx414_0⟩ := Kd.at_int HR1_0.out x26_2 p414 q414
           cases e414
           replace hx414_0 := (HB.out.cell (World.block_lt_of_cell? w _ hx414_0)).trans hx414_0
           replace p414 := eq_true p414
           replace q414 := eq_true q414
           have hnb23 := NB412_413.out
           have hnc23 := NB413_412.out
           have hcz24_0 := cf0 BK412.out
           have hcz24_1 := cf1 BK412.out
           have hcz24_2 := cf2 BK412.out
           have hfz24_0 := blk_frozen BK412.out 0
           have hfz24_1 := blk_frozen BK412.out 1
           have hfz24_2 := blk_frozen BK412.out 2
           have p415 : 0 ≤ (x26_2 : Int) := of_decide_eq_true z47_2
           have q415 : x26_2 < (l0_2.length : Int) := of_decide_eq_true z47_2
           obtain ⟨ad415, e415, hx415_0, hx415_1, hx415_2⟩ := at_T70 HR0_2.out x26_2 p415 q415
           cases e415
           replace hx415_0 := (HB.out.cell (World.block_lt_of_cell? w _ hx415_0)).trans hx415_0
           replace hx415_1 := (HB.out.cell (World.block_lt_of_cell? w _ hx415_1)).trans hx415_1
           replace hx415_2 := (HB.out.cell (World.block_lt_of_cell? w _ hx415_2)).trans hx415_2
           replace p415 := eq_true p415
           replace q415 := eq_true q415
           go_wp2_with (first | ((with_reducible refine gate_dst (N := 7) rfl ?_); (try (refine gate_guard (by rfl) ?_; dsimp only)); refine box_event ?hg (N := 7) ?hd (cs := #[.int .i64 0, .int .i64 0, .int .i64 0]) (t := 70) ?hr ?_; (case hd => rfl); (case hg => rfl); (case hr => first | (go_simp; done) | (go_simp; rfl)); intro gb416 hg w25 hbox hb; have n0_ := am_ (blk_below (bu BK412.out) hb); have n1_ := am_ (blk_below (bu BK413.out) hb); have n2_ := am_ (below_step z47_6 hb); have n3_ := am_ (hbox); have n4_ := am_ (by rw [hg]; exact (below_size z47_6) : w.heap.size ≤ gb416); have n5_ := am_ (by rw [hg]; exact (below_size z47_6) : w.heap.size ≤ gb416); have n6_ := am_ (by rw [hg]; exact Nat.ne_of_lt (blk_lt (bu BK412.out)) : gb412 ≠ gb416); have n7_ := am_ (by rw [hg]; exact Nat.ne_of_gt (blk_lt (bu BK412.out)) : gb416 ≠ gb412); have n8_ := am_ (by rw [hg]; exact Nat.ne_of_lt (blk_lt (bu BK413.out)) : gb413 ≠ gb416); have n9_ := am_ (by rw [hg]; exact Nat.ne_of_gt (blk_lt (bu BK413.out)) : gb416 ≠ gb413); clear BK412 BK413 HB; have BK412 := n0_; have BK413 := n1_; have HB := n2_; have BK416 := n3_; have GW416 := n4_; have GE416 := n5_; have NB412_416 := n6_; have NB416_412 := n7_; have NB413_416 := n8_; have NB416_413 := n9_; clear n0_ n1_ n2_ n3_ n4_ n5_ n6_ n7_ n8_ n9_; clear hb hbox hg; have hnb26 := NB416_412.out; have hnc26 := NB412_416.out; have hnb27 := NB416_413.out; have hnc27 := NB413_416.out; have hcz28_0 := cf0 BK416.out; have hcz28_1 := cf1 BK416.out; have hcz28_2 := cf2 BK416.out; have hfz28_0 := blk_frozen BK416.out 0; have hfz28_1 := blk_frozen BK416.out 1; have hfz28_2 := blk_frozen BK416.out 2) | ((with_reducible refine gate_callee (f := 31) rfl ?_); refine goesL_ (some 38) rfl rfl Try.func31 (by kernel_rfl) rfl #[.agg #[.int .i64 ((rd_T70 l0_2 x26_2).f0), .int .i64 ((rd_T70 l0_2 x26_2).f1), .int .i64 ((rd_T70 l0_2 x26_2).f2)]] rfl (by (try simp only [List.map_toArray, List.map_cons, List.map_nil]); first | done | rfl | (simp only [List.length_drop, List.length_take]; rfl)) ?_; (with_reducible refine (impl_Do_reads.calls ((rd_T70 l0_2 x26_2).f0) ((rd_T70 l0_2 x26_2).f1) ((rd_T70 l0_2 x26_2).f2) true _ A20.out).mono ?_); rintro e w29 ⟨rfl, hb⟩; refine ⟨_, rfl, ?_⟩; replace BK412 := am_ (blk_below (g := gb412) (o := .cells #[.slice A0_0 l0_0.length c0_0, .slice A0_1 l0_1.length c0_1, .slice (some ad415) l0_2.length c0_2] 60 (0, 0)) z47_8 hb); replace BK413 := am_ (blk_below (g := gb413) (o := .cells #[.slice (some ad414) l1_0.length c1_0, .slice A1_1 l1_1.length c1_1] 40 (0, 0)) z47_9 hb); replace BK416 := am_ (blk_below (g := gb416) (o := .cells #[.int .i64 ((rd_T70 l0_2 x26_2).f0), .int .i64 ((rd_T70 l0_2 x26_2).f1), .int .i64 ((rd_T70 l0_2 x26_2).f2)] 70 (0, 0)) z47_10 hb); replace HB := am_ (below_step z47_7 hb); (try clear hb); (try clear hb2); (try clear hk); (try clear hi)))
           go_roundg k2
           case measure => have := HJ2.out; have := HK2.out; omega
           case rel => exact ⟨(wrap64 (x26_2 + 1)), z47_1, H', ⟨by have := HJ2.out; have := HK2.out; omega⟩, ⟨bu BK412.out⟩, ⟨bu BK413.out⟩, ⟨z47_7⟩⟩
          rw [if_neg c22] at H
          have c22b0 : ((rd l1_0 x26_2) == (-1)) = false := beq_eq_false_iff_ne.mpr c22
          have c22b1 : ((rd l1_0 x26_2) != (-1)) = true := bne_iff_ne.mpr c22
          replace H := Option.bind_eq_some_iff.mp H
          obtain ⟨t418, A300, H⟩ := H
          replace H : ((slices_Contains_int_int.f k2 t418 (rd l1_0 x26_2)).bind fun t421 => (if t421 = true then (impl_scene_fits.l0 k2 l1_0 (l1_0.length : Int) (wrap64 (x26_2 + 1)) l0_0 l0_1 l0_2 l1_0 l1_1) else (some false))) = some r := H
          have A30 := am_ A300
          clear A300
          replace H := Option.bind_eq_some_iff.mp H
          obtain ⟨t421, A310, H⟩ := H
          replace H : (if t421 = true then (impl_scene_fits.l0 k2 l1_0 (l1_0.length : Int) (wrap64 (x26_2 + 1)) l0_0 l0_1 l0_2 l1_0 l1_1) else (some false)) = some r := H
          have A31 := am_ A310
          clear A310
          by_cases c32 : t421 = true
          ·subst c32
           have H1 : (impl_scene_fits.l0 k2 l1_0 (l1_0.length : Int) (wrap64 (x26_2 + 1)) l0_0 l0_1 l0_2 l1_0 l1_1) = some r := by rw [if_pos rfl] at H; exact H
           clear H
           have H := H1
           clear H1
           have H' := am_ H
           clear H
           have p414 : 0 ≤ (x26_2 : Int) := of_decide_eq_true z47_2
           have q414 : x26_2 < (l1_0.length : Int) := of_decide_eq_true z47_2
           obtain ⟨ad414, e414, hx414_0⟩ := Kd.at_int HR1_0.out x26_2 p414 q414
           cases e414
           replace hx414_0 := (HB.out.cell (World.block_lt_of_cell? w _ hx414_0)).trans hx414_0
           replace p414 := eq_true p414
           replace q414 := eq_true q414
           have hnb33 := NB412_413.out
           have hnc33 := NB413_412.out
           have hcz34_0 := cf0 BK412.out
           have hcz34_1 := cf1 BK412.out
           have hcz34_2 := cf2 BK412.out
           have hfz34_0 := blk_frozen BK412.out 0
           have hfz34_1 := blk_frozen BK412.out 1
           have hfz34_2 := blk_frozen BK412.out 2
           have p415 : 0 ≤ (x26_2 : Int) := of_decide_eq_true z47_2
           have q415 : x26_2 < (l0_2.length : Int) := of_decide_eq_true z47_2
           obtain ⟨ad415, e415, hx415_0, hx415_1, hx415_2⟩ := at_T70 HR0_2.out x26_2 p415 q415
           cases e415
           replace hx415_0 := (HB.out.cell (World.block_lt_of_cell? w _ hx415_0)).trans hx415_0
           replace hx415_1 := (HB.out.cell (World.block_lt_of_cell? w _ hx415_1)).trans hx415_1
           replace hx415_2 := (HB.out.cell (World.block_lt_of_cell? w _ hx415_2)).trans hx415_2
           replace p415 := eq_true p415
           replace q415 := eq_true q415
           go_wp2_with (first | ((with_reducible refine gate_dst (N := 7) rfl ?_); (try (refine gate_guard (by rfl) ?_; dsimp only)); refine box_event ?hg (N := 7) ?hd (cs := #[.int .i64 0, .int .i64 0, .int .i64 0]) (t := 70) ?hr ?_; (case hd => rfl); (case hg => rfl); (case hr => first | (go_simp; done) | (go_simp; rfl)); intro gb416 hg w35 hbox hb; have n0_ := am_ (blk_below (bu BK412.out) hb); have n1_ := am_ (blk_below (bu BK413.out) hb); have n2_ := am_ (below_step z47_6 hb); have n3_ := am_ (hbox); have n4_ := am_ (by rw [hg]; exact (below_size z47_6) : w.heap.size ≤ gb416); have n5_ := am_ (by rw [hg]; exact (below_size z47_6) : w.heap.size ≤ gb416); have n6_ := am_ (by rw [hg]; exact Nat.ne_of_lt (blk_lt (bu BK412.out)) : gb412 ≠ gb416); have n7_ := am_ (by rw [hg]; exact Nat.ne_of_gt (blk_lt (bu BK412.out)) : gb416 ≠ gb412); have n8_ := am_ (by rw [hg]; exact Nat.ne_of_lt (blk_lt (bu BK413.out)) : gb413 ≠ gb416); have n9_ := am_ (by rw [hg]; exact Nat.ne_of_gt (blk_lt (bu BK413.out)) : gb416 ≠ gb413); clear BK412 BK413 HB; have BK412 := n0_; have BK413 := n1_; have HB := n2_; have BK416 := n3_; have GW416 := n4_; have GE416 := n5_; have NB412_416 := n6_; have NB416_412 := n7_; have NB413_416 := n8_; have NB416_413 := n9_; clear n0_ n1_ n2_ n3_ n4_ n5_ n6_ n7_ n8_ n9_; clear hb hbox hg; have hnb36 := NB416_412.out; have hnc36 := NB412_416.out; have hnb37 := NB416_413.out; have hnc37 := NB413_416.out; have hcz38_0 := cf0 BK416.out; have hcz38_1 := cf1 BK416.out; have hcz38_2 := cf2 BK416.out; have hfz38_0 := blk_frozen BK416.out 0; have hfz38_1 := blk_frozen BK416.out 1; have hfz38_2 := blk_frozen BK416.out 2) | ((with_reducible refine gate_callee (f := 31) rfl ?_); refine goesL_ (some 38) rfl rfl Try.func31 (by kernel_rfl) rfl #[.agg #[.int .i64 ((rd_T70 l0_2 x26_2).f0), .int .i64 ((rd_T70 l0_2 x26_2).f1), .int .i64 ((rd_T70 l0_2 x26_2).f2)]] rfl (by (try simp only [List.map_toArray, List.map_cons, List.map_nil]); first | done | rfl | (simp only [List.length_drop, List.length_take]; rfl)) ?_; (with_reducible refine (impl_Do_reads.calls ((rd_T70 l0_2 x26_2).f0) ((rd_T70 l0_2 x26_2).f1) ((rd_T70 l0_2 x26_2).f2) true _ A20.out).mono ?_); rintro e w39 ⟨rfl, hb⟩; refine ⟨_, rfl, ?_⟩; replace BK412 := am_ (blk_below (g := gb412) (o := .cells #[.slice A0_0 l0_0.length c0_0, .slice A0_1 l0_1.length c0_1, .slice (some ad415) l0_2.length c0_2] 60 (0, 0)) z47_8 hb); replace BK413 := am_ (blk_below (g := gb413) (o := .cells #[.slice (some ad414) l1_0.length c1_0, .slice A1_1 l1_1.length c1_1] 40 (0, 0)) z47_9 hb); replace BK416 := am_ (blk_below (g := gb416) (o := .cells #[.int .i64 ((rd_T70 l0_2 x26_2).f0), .int .i64 ((rd_T70 l0_2 x26_2).f1), .int .i64 ((rd_T70 l0_2 x26_2).f2)] 70 (0, 0)) z47_10 hb); replace HB := am_ (below_step z47_7 hb); (try clear hb); (try clear hb2); (try clear hk); (try clear hi); have hcz40_0 := cf0 BK412.out; have hcz40_1 := cf1 BK412.out; have hcz40_2 := cf2 BK412.out; have hfz40_0 := blk_frozen BK412.out 0; have hfz40_1 := blk_frozen BK412.out 1; have hfz40_2 := blk_frozen BK412.out 2; have hcz41_0 := cf0 BK416.out; have hcz41_1 := cf1 BK416.out; have hcz41_2 := cf2 BK416.out; have hfz41_0 := blk_frozen BK416.out 0; have hfz41_1 := blk_frozen BK416.out 1; have hfz41_2 := blk_frozen BK416.out 2) | (go_at_call 45; (with_reducible refine (impl_scene_writers.calls k2 _ _ l0_0 _ _ l0_1 _ _ l0_2 ((rd_T70 l0_2 x26_2).f1) t418 _ ?side1 ?side2 ?side3 ?side4 ?side5 ?side6 A30.out).mono ?_); (case side1 => repeat (first | exact (Kd.C_below HR0_0.out HB.out) | (with_reducible refine Kd.C_alloc ?_ _) | (with_reducible refine Kd.C_drewN ?_ _) | (with_reducible refine Kd.C_drew ?_))); (case side2 => exact HC0_0.out); (case side3 => repeat (first | exact (Kd.C_below HR0_1.out HB.out) | (with_reducible refine Kd.C_alloc ?_ _) | (with_reducible refine Kd.C_drewN ?_ _) | (with_reducible refine Kd.C_drew ?_))); (case side4 => exact HC0_1.out); (case side5 => repeat (first | exact (Kd.C_below HR0_2.out HB.out) | (with_reducible refine Kd.C_alloc ?_ _) | (with_reducible refine Kd.C_drewN ?_ _) | (with_reducible refine Kd.C_drew ?_))); (case side6 => exact HC0_2.out); rintro e w42 ⟨v419, rfl, ho0, hb⟩; have HO420 := am_ (Kd.R_lower ho0 (below_size z47_7)); replace BK412 := am_ (blk_below (bu BK412.out) hb); replace BK413 := am_ (blk_below (bu BK413.out) hb); replace BK416 := am_ (blk_below (bu BK416.out) hb); replace HB := am_ (below_step z47_7 hb); (try clear hb); (try clear hb2); (try clear hk); (try clear hi); (try clear ho0); obtain ⟨Ao43, co43, eo43⟩ := Kd.R_slice HO420.out; subst eo43) | (go_at_call 52; (with_reducible refine (slices_Contains_int_int.calls k2 _ _ t418 (rd l1_0 x26_2) true _ ?side1 ?side2 A31.out).mono ?_); (case side1 => repeat (first | exact (Kd.R_reads' HO420.out).2.2 | (with_reducible refine Kd.C_alloc ?_ _) | (with_reducible refine Kd.C_drewN ?_ _) | (with_reducible refine Kd.C_drew ?_))); (case side2 => exact (Kd.R_reads' HO420.out).2.1); rintro e w' ⟨rfl, ⟨nd, rfl⟩⟩))
           go_roundg k2
           case measure => have := HJ2.out; have := HK2.out; omega
           case rel => exact ⟨(wrap64 (x26_2 + 1)), z47_1, H', ⟨by have := HJ2.out; have := HK2.out; omega⟩, ⟨bu BK412.out⟩, ⟨bu BK413.out⟩, ⟨z47_7⟩⟩
          replace c32 := Bool.eq_false_iff.mpr c32
          subst c32
          have H1 : (some false) = some r := by rw [if_neg (show ¬ (false = true) by decide)] at H; exact H
          clear H
          have H := H1
          clear H1
          obtain rfl := Option.some.inj H
          have p414 : 0 ≤ (x26_2 : Int) := of_decide_eq_true z47_2
          have q414 : x26_2 < (l1_0.length : Int) := of_decide_eq_true z47_2
          obtain ⟨ad414, e414, hx414_0⟩ := Kd.at_int HR1_0.out x26_2 p414 q414
          cases e414
          replace hx414_0 := (HB.out.cell (World.block_lt_of_cell? w _ hx414_0)).trans hx414_0
          replace p414 := eq_true p414
          replace q414 := eq_true q414
          have hnb44 := NB412_413.out
          have hnc44 := NB413_412.out
          have hcz45_0 := cf0 BK412.out
          have hcz45_1 := cf1 BK412.out
          have hcz45_2 := cf2 BK412.out
          have hfz45_0 := blk_frozen BK412.out 0
          have hfz45_1 := blk_frozen BK412.out 1
          have hfz45_2 := blk_frozen BK412.out 2
          have p415 : 0 ≤ (x26_2 : Int) := of_decide_eq_true z47_2
          have q415 : x26_2 < (l0_2.length : Int) := of_decide_eq_true z47_2
          obtain ⟨ad415, e415, hx415_0, hx415_1, hx415_2⟩ := at_T70 HR0_2.out x26_2 p415 q415
          cases e415
          replace hx415_0 := (HB.out.cell (World.block_lt_of_cell? w _ hx415_0)).trans hx415_0
          replace hx415_1 := (HB.out.cell (World.block_lt_of_cell? w _ hx415_1)).trans hx415_1
          replace hx415_2 := (HB.out.cell (World.block_lt_of_cell? w _ hx415_2)).trans hx415_2
          replace p415 := eq_true p415
          replace q415 := eq_true q415
          go_wp2_with (first | ((with_reducible refine gate_dst (N := 7) rfl ?_); (try (refine gate_guard (by rfl) ?_; dsimp only)); refine box_event ?hg (N := 7) ?hd (cs := #[.int .i64 0, .int .i64 0, .int .i64 0]) (t := 70) ?hr ?_; (case hd => rfl); (case hg => rfl); (case hr => first | (go_simp; done) | (go_simp; rfl)); intro gb416 hg w46 hbox hb; have n0_ := am_ (blk_below (bu BK412.out) hb); have n1_ := am_ (blk_below (bu BK413.out) hb); have n2_ := am_ (below_step z47_6 hb); have n3_ := am_ (hbox); have n4_ := am_ (by rw [hg]; exact (below_size z47_6) : w.heap.size ≤ gb416); have n5_ := am_ (by rw [hg]; exact (below_size z47_6) : w.heap.size ≤ gb416); have n6_ := am_ (by rw [hg]; exact Nat.ne_of_lt (blk_lt (bu BK412.out)) : gb412 ≠ gb416); have n7_ := am_ (by rw [hg]; exact Nat.ne_of_gt (blk_lt (bu BK412.out)) : gb416 ≠ gb412); have n8_ := am_ (by rw [hg]; exact Nat.ne_of_lt (blk_lt (bu BK413.out)) : gb413 ≠ gb416); have n9_ := am_ (by rw [hg]; exact Nat.ne_of_gt (blk_lt (bu BK413.out)) : gb416 ≠ gb413); clear BK412 BK413 HB; have BK412 := n0_; have BK413 := n1_; have HB := n2_; have BK416 := n3_; have GW416 := n4_; have GE416 := n5_; have NB412_416 := n6_; have NB416_412 := n7_; have NB413_416 := n8_; have NB416_413 := n9_; clear n0_ n1_ n2_ n3_ n4_ n5_ n6_ n7_ n8_ n9_; clear hb hbox hg; have hnb47 := NB416_412.out; have hnc47 := NB412_416.out; have hnb48 := NB416_413.out; have hnc48 := NB413_416.out; have hcz49_0 := cf0 BK416.out; have hcz49_1 := cf1 BK416.out; have hcz49_2 := cf2 BK416.out; have hfz49_0 := blk_frozen BK416.out 0; have hfz49_1 := blk_frozen BK416.out 1; have hfz49_2 := blk_frozen BK416.out 2) | ((with_reducible refine gate_callee (f := 31) rfl ?_); refine goesL_ (some 38) rfl rfl Try.func31 (by kernel_rfl) rfl #[.agg #[.int .i64 ((rd_T70 l0_2 x26_2).f0), .int .i64 ((rd_T70 l0_2 x26_2).f1), .int .i64 ((rd_T70 l0_2 x26_2).f2)]] rfl (by (try simp only [List.map_toArray, List.map_cons, List.map_nil]); first | done | rfl | (simp only [List.length_drop, List.length_take]; rfl)) ?_; (with_reducible refine (impl_Do_reads.calls ((rd_T70 l0_2 x26_2).f0) ((rd_T70 l0_2 x26_2).f1) ((rd_T70 l0_2 x26_2).f2) true _ A20.out).mono ?_); rintro e w50 ⟨rfl, hb⟩; refine ⟨_, rfl, ?_⟩; replace BK412 := am_ (blk_below (g := gb412) (o := .cells #[.slice A0_0 l0_0.length c0_0, .slice A0_1 l0_1.length c0_1, .slice (some ad415) l0_2.length c0_2] 60 (0, 0)) z47_8 hb); replace BK413 := am_ (blk_below (g := gb413) (o := .cells #[.slice (some ad414) l1_0.length c1_0, .slice A1_1 l1_1.length c1_1] 40 (0, 0)) z47_9 hb); replace BK416 := am_ (blk_below (g := gb416) (o := .cells #[.int .i64 ((rd_T70 l0_2 x26_2).f0), .int .i64 ((rd_T70 l0_2 x26_2).f1), .int .i64 ((rd_T70 l0_2 x26_2).f2)] 70 (0, 0)) z47_10 hb); replace HB := am_ (below_step z47_7 hb); (try clear hb); (try clear hb2); (try clear hk); (try clear hi); have hcz51_0 := cf0 BK412.out; have hcz51_1 := cf1 BK412.out; have hcz51_2 := cf2 BK412.out; have hfz51_0 := blk_frozen BK412.out 0; have hfz51_1 := blk_frozen BK412.out 1; have hfz51_2 := blk_frozen BK412.out 2; have hcz52_0 := cf0 BK416.out; have hcz52_1 := cf1 BK416.out; have hcz52_2 := cf2 BK416.out; have hfz52_0 := blk_frozen BK416.out 0; have hfz52_1 := blk_frozen BK416.out 1; have hfz52_2 := blk_frozen BK416.out 2) | (go_at_call 45; (with_reducible refine (impl_scene_writers.calls k2 _ _ l0_0 _ _ l0_1 _ _ l0_2 ((rd_T70 l0_2 x26_2).f1) t418 _ ?side1 ?side2 ?side3 ?side4 ?side5 ?side6 A30.out).mono ?_); (case side1 => repeat (first | exact (Kd.C_below HR0_0.out HB.out) | (with_reducible refine Kd.C_alloc ?_ _) | (with_reducible refine Kd.C_drewN ?_ _) | (with_reducible refine Kd.C_drew ?_))); (case side2 => exact HC0_0.out); (case side3 => repeat (first | exact (Kd.C_below HR0_1.out HB.out) | (with_reducible refine Kd.C_alloc ?_ _) | (with_reducible refine Kd.C_drewN ?_ _) | (with_reducible refine Kd.C_drew ?_))); (case side4 => exact HC0_1.out); (case side5 => repeat (first | exact (Kd.C_below HR0_2.out HB.out) | (with_reducible refine Kd.C_alloc ?_ _) | (with_reducible refine Kd.C_drewN ?_ _) | (with_reducible refine Kd.C_drew ?_))); (case side6 => exact HC0_2.out); rintro e w53 ⟨v419, rfl, ho0, hb⟩; have HO420 := am_ (Kd.R_lower ho0 (below_size z47_7)); replace BK412 := am_ (blk_below (bu BK412.out) hb); replace BK413 := am_ (blk_below (bu BK413.out) hb); replace BK416 := am_ (blk_below (bu BK416.out) hb); replace HB := am_ (below_step z47_7 hb); (try clear hb); (try clear hb2); (try clear hk); (try clear hi); (try clear ho0); obtain ⟨Ao54, co54, eo54⟩ := Kd.R_slice HO420.out; subst eo54) | (go_at_call 52; (with_reducible refine (slices_Contains_int_int.calls k2 _ _ t418 (rd l1_0 x26_2) false _ ?side1 ?side2 A31.out).mono ?_); (case side1 => repeat (first | exact (Kd.R_reads' HO420.out).2.2 | (with_reducible refine Kd.C_alloc ?_ _) | (with_reducible refine Kd.C_drewN ?_ _) | (with_reducible refine Kd.C_drew ?_))); (case side2 => exact (Kd.R_reads' HO420.out).2.1); rintro e w' ⟨rfl, ⟨nd, rfl⟩⟩))
          go_ret
          exact ⟨z47_3, z47_7⟩
         replace c21 := Bool.eq_false_iff.mpr c21
         subst c21
         have H1 : (if (rd l1_0 x26_2) = (-2) then (impl_scene_fits.l0 k2 l1_0 (l1_0.length : Int) (wrap64 (x26_2 + 1)) l0_0 l0_1 l0_2 l1_0 l1_1) else (some false)) = some r := by rw [if_neg (show ¬ (false = true) by decide)] at H; exact H
         clear H
         have H := H1
         clear H1
         by_cases c55 : (rd l1_0 x26_2) = (-2)
         ·rw [if_pos c55] at H
          have c55b0 : ((rd l1_0 x26_2) == (-2)) = true := beq_iff_eq.mpr c55
          have c55b1 : ((rd l1_0 x26_2) != (-2)) = false := bne_eq_false_iff_eq.mpr c55
          clear c55
          have H' := am_ H
          clear H
          have p414 : 0 ≤ (x26_2 : Int) := of_decide_eq_true z47_2
          have q414 : x26_2 < (l1_0.length : Int) := of_decide_eq_true z47_2
          obtain ⟨ad414, e414, hx414_0⟩ := Kd.at_int HR1_0.out x26_2 p414 q414
          cases e414
          replace hx414_0 := (HB.out.cell (World.block_lt_of_cell? w _ hx414_0)).trans hx414_0
          replace p414 := eq_true p414
          replace q414 := eq_true q414
          have hnb56 := NB412_413.out
          have hnc56 := NB413_412.out
          have hcz57_0 := cf0 BK412.out
          have hcz57_1 := cf1 BK412.out
          have hcz57_2 := cf2 BK412.out
          have hfz57_0 := blk_frozen BK412.out 0
          have hfz57_1 := blk_frozen BK412.out 1
          have hfz57_2 := blk_frozen BK412.out 2
          have p415 : 0 ≤ (x26_2 : Int) := of_decide_eq_true z47_2
          have q415 : x26_2 < (l0_2.length : Int) := of_decide_eq_true z47_2
          obtain ⟨ad415, e415, hx415_0, hx415_1, hx415_2⟩ := at_T70 HR0_2.out x26_2 p415 q415
          cases e415
          replace hx415_0 := (HB.out.cell (World.block_lt_of_cell? w _ hx415_0)).trans hx415_0
          replace hx415_1 := (HB.out.cell (World.block_lt_of_cell? w _ hx415_1)).trans hx415_1
          replace hx415_2 := (HB.out.cell (World.block_lt_of_cell? w _ hx415_2)).trans hx415_2
          replace p415 := eq_true p415
          replace q415 := eq_true q415
          go_wp2_with (first | ((with_reducible refine gate_dst (N := 7) rfl ?_); (try (refine gate_guard (by rfl) ?_; dsimp only)); refine box_event ?hg (N := 7) ?hd (cs := #[.int .i64 0, .int .i64 0, .int .i64 0]) (t := 70) ?hr ?_; (case hd => rfl); (case hg => rfl); (case hr => first | (go_simp; done) | (go_simp; rfl)); intro gb416 hg w58 hbox hb; have n0_ := am_ (blk_below (bu BK412.out) hb); have n1_ := am_ (blk_below (bu BK413.out) hb); have n2_ := am_ (below_step z47_6 hb); have n3_ := am_ (hbox); have n4_ := am_ (by rw [hg]; exact (below_size z47_6) : w.heap.size ≤ gb416); have n5_ := am_ (by rw [hg]; exact (below_size z47_6) : w.heap.size ≤ gb416); have n6_ := am_ (by rw [hg]; exact Nat.ne_of_lt (blk_lt (bu BK412.out)) : gb412 ≠ gb416); have n7_ := am_ (by rw [hg]; exact Nat.ne_of_gt (blk_lt (bu BK412.out)) : gb416 ≠ gb412); have n8_ := am_ (by rw [hg]; exact Nat.ne_of_lt (blk_lt (bu BK413.out)) : gb413 ≠ gb416); have n9_ := am_ (by rw [hg]; exact Nat.ne_of_gt (blk_lt (bu BK413.out)) : gb416 ≠ gb413); clear BK412 BK413 HB; have BK412 := n0_; have BK413 := n1_; have HB := n2_; have BK416 := n3_; have GW416 := n4_; have GE416 := n5_; have NB412_416 := n6_; have NB416_412 := n7_; have NB413_416 := n8_; have NB416_413 := n9_; clear n0_ n1_ n2_ n3_ n4_ n5_ n6_ n7_ n8_ n9_; clear hb hbox hg; have hnb59 := NB416_412.out; have hnc59 := NB412_416.out; have hnb60 := NB416_413.out; have hnc60 := NB413_416.out; have hcz61_0 := cf0 BK416.out; have hcz61_1 := cf1 BK416.out; have hcz61_2 := cf2 BK416.out; have hfz61_0 := blk_frozen BK416.out 0; have hfz61_1 := blk_frozen BK416.out 1; have hfz61_2 := blk_frozen BK416.out 2) | ((with_reducible refine gate_callee (f := 31) rfl ?_); refine goesL_ (some 38) rfl rfl Try.func31 (by kernel_rfl) rfl #[.agg #[.int .i64 ((rd_T70 l0_2 x26_2).f0), .int .i64 ((rd_T70 l0_2 x26_2).f1), .int .i64 ((rd_T70 l0_2 x26_2).f2)]] rfl (by (try simp only [List.map_toArray, List.map_cons, List.map_nil]); first | done | rfl | (simp only [List.length_drop, List.length_take]; rfl)) ?_; (with_reducible refine (impl_Do_reads.calls ((rd_T70 l0_2 x26_2).f0) ((rd_T70 l0_2 x26_2).f1) ((rd_T70 l0_2 x26_2).f2) false _ A20.out).mono ?_); rintro e w62 ⟨rfl, hb⟩; refine ⟨_, rfl, ?_⟩; replace BK412 := am_ (blk_below (g := gb412) (o := .cells #[.slice A0_0 l0_0.length c0_0, .slice A0_1 l0_1.length c0_1, .slice (some ad415) l0_2.length c0_2] 60 (0, 0)) z47_8 hb); replace BK413 := am_ (blk_below (g := gb413) (o := .cells #[.slice (some ad414) l1_0.length c1_0, .slice A1_1 l1_1.length c1_1] 40 (0, 0)) z47_9 hb); replace BK416 := am_ (blk_below (g := gb416) (o := .cells #[.int .i64 ((rd_T70 l0_2 x26_2).f0), .int .i64 ((rd_T70 l0_2 x26_2).f1), .int .i64 ((rd_T70 l0_2 x26_2).f2)] 70 (0, 0)) z47_10 hb); replace HB := am_ (below_step z47_7 hb); (try clear hb); (try clear hb2); (try clear hk); (try clear hi)))
          go_roundg k2
          case measure => have := HJ2.out; have := HK2.out; omega
          case rel => exact ⟨(wrap64 (x26_2 + 1)), z47_1, H', ⟨by have := HJ2.out; have := HK2.out; omega⟩, ⟨bu BK412.out⟩, ⟨bu BK413.out⟩, ⟨z47_7⟩⟩
         rw [if_neg c55] at H
         have c55b0 : ((rd l1_0 x26_2) == (-2)) = false := beq_eq_false_iff_ne.mpr c55
         have c55b1 : ((rd l1_0 x26_2) != (-2)) = true := bne_iff_ne.mpr c55
         obtain rfl := Option.some.inj H
         have p414 : 0 ≤ (x26_2 : Int) := of_decide_eq_true z47_2
         have q414 : x26_2 < (l1_0.length : Int) := of_decide_eq_true z47_2
         obtain ⟨ad414, e414, hx414_0⟩ := Kd.at_int HR1_0.out x26_2 p414 q414
         cases e414
         replace hx414_0 := (HB.out.cell (World.block_lt_of_cell? w _ hx414_0)).trans hx414_0
         replace p414 := eq_true p414
         replace q414 := eq_true q414
         have hnb63 := NB412_413.out
         have hnc63 := NB413_412.out
         have hcz64_0 := cf0 BK412.out
         have hcz64_1 := cf1 BK412.out
         have hcz64_2 := cf2 BK412.out
         have hfz64_0 := blk_frozen BK412.out 0
         have hfz64_1 := blk_frozen BK412.out 1
         have hfz64_2 := blk_frozen BK412.out 2
         have p415 : 0 ≤ (x26_2 : Int) := of_decide_eq_true z47_2
         have q415 : x26_2 < (l0_2.length : Int) := of_decide_eq_true z47_2
         obtain ⟨ad415, e415, hx415_0, hx415_1, hx415_2⟩ := at_T70 HR0_2.out x26_2 p415 q415
         cases e415
         replace hx415_0 := (HB.out.cell (World.block_lt_of_cell? w _ hx415_0)).trans hx415_0
         replace hx415_1 := (HB.out.cell (World.block_lt_of_cell? w _ hx415_1)).trans hx415_1
         replace hx415_2 := (HB.out.cell (World.block_lt_of_cell? w _ hx415_2)).trans hx415_2
         replace p415 := eq_true p415
         replace q415 := eq_true q415
         go_wp2_with (first | ((with_reducible refine gate_dst (N := 7) rfl ?_); (try (refine gate_guard (by rfl) ?_; dsimp only)); refine box_event ?hg (N := 7) ?hd (cs := #[.int .i64 0, .int .i64 0, .int .i64 0]) (t := 70) ?hr ?_; (case hd => rfl); (case hg => rfl); (case hr => first | (go_simp; done) | (go_simp; rfl)); intro gb416 hg w65 hbox hb; have n0_ := am_ (blk_below (bu BK412.out) hb); have n1_ := am_ (blk_below (bu BK413.out) hb); have n2_ := am_ (below_step z47_6 hb); have n3_ := am_ (hbox); have n4_ := am_ (by rw [hg]; exact (below_size z47_6) : w.heap.size ≤ gb416); have n5_ := am_ (by rw [hg]; exact (below_size z47_6) : w.heap.size ≤ gb416); have n6_ := am_ (by rw [hg]; exact Nat.ne_of_lt (blk_lt (bu BK412.out)) : gb412 ≠ gb416); have n7_ := am_ (by rw [hg]; exact Nat.ne_of_gt (blk_lt (bu BK412.out)) : gb416 ≠ gb412); have n8_ := am_ (by rw [hg]; exact Nat.ne_of_lt (blk_lt (bu BK413.out)) : gb413 ≠ gb416); have n9_ := am_ (by rw [hg]; exact Nat.ne_of_gt (blk_lt (bu BK413.out)) : gb416 ≠ gb413); clear BK412 BK413 HB; have BK412 := n0_; have BK413 := n1_; have HB := n2_; have BK416 := n3_; have GW416 := n4_; have GE416 := n5_; have NB412_416 := n6_; have NB416_412 := n7_; have NB413_416 := n8_; have NB416_413 := n9_; clear n0_ n1_ n2_ n3_ n4_ n5_ n6_ n7_ n8_ n9_; clear hb hbox hg; have hnb66 := NB416_412.out; have hnc66 := NB412_416.out; have hnb67 := NB416_413.out; have hnc67 := NB413_416.out; have hcz68_0 := cf0 BK416.out; have hcz68_1 := cf1 BK416.out; have hcz68_2 := cf2 BK416.out; have hfz68_0 := blk_frozen BK416.out 0; have hfz68_1 := blk_frozen BK416.out 1; have hfz68_2 := blk_frozen BK416.out 2) | ((with_reducible refine gate_callee (f := 31) rfl ?_); refine goesL_ (some 38) rfl rfl Try.func31 (by kernel_rfl) rfl #[.agg #[.int .i64 ((rd_T70 l0_2 x26_2).f0), .int .i64 ((rd_T70 l0_2 x26_2).f1), .int .i64 ((rd_T70 l0_2 x26_2).f2)]] rfl (by (try simp only [List.map_toArray, List.map_cons, List.map_nil]); first | done | rfl | (simp only [List.length_drop, List.length_take]; rfl)) ?_; (with_reducible refine (impl_Do_reads.calls ((rd_T70 l0_2 x26_2).f0) ((rd_T70 l0_2 x26_2).f1) ((rd_T70 l0_2 x26_2).f2) false _ A20.out).mono ?_); rintro e w69 ⟨rfl, hb⟩; refine ⟨_, rfl, ?_⟩; replace BK412 := am_ (blk_below (g := gb412) (o := .cells #[.slice A0_0 l0_0.length c0_0, .slice A0_1 l0_1.length c0_1, .slice (some ad415) l0_2.length c0_2] 60 (0, 0)) z47_8 hb); replace BK413 := am_ (blk_below (g := gb413) (o := .cells #[.slice (some ad414) l1_0.length c1_0, .slice A1_1 l1_1.length c1_1] 40 (0, 0)) z47_9 hb); replace BK416 := am_ (blk_below (g := gb416) (o := .cells #[.int .i64 ((rd_T70 l0_2 x26_2).f0), .int .i64 ((rd_T70 l0_2 x26_2).f1), .int .i64 ((rd_T70 l0_2 x26_2).f2)] 70 (0, 0)) z47_10 hb); replace HB := am_ (below_step z47_7 hb); (try clear hb); (try clear hb2); (try clear hk); (try clear hi)))
         go_ret
         exact ⟨z47_3, z47_7⟩
        rw [if_neg c19] at H
        exact absurd H (by simp)
       rw [if_neg c18] at H
       exact absurd H (by simp)
      rw [if_neg c17] at H
      exact absurd H (by simp)
     rw [if_neg c16] at H
     have c16b0 : decide (x26_2 < (l1_0.length : Int)) = false := decide_eq_false c16
     clear c16
     have H' := am_ H
     clear H
     have hnb70 := NB413_412.out
     have hnc70 := NB412_413.out
     have hcz71_0 := cf0 BK413.out
     have hcz71_1 := cf1 BK413.out
     have hfz71_0 := blk_frozen BK413.out 0
     have hfz71_1 := blk_frozen BK413.out 1
     go_wp2
     go_loopg [58] k2 (fun kq v58 w' => ∃ (x58_3 : Int), v58 = .int .i64 x58_3 ∧ Aside0 (impl_scene_fits.l1 kq l1_1 (l1_1.length : Int) x58_3 l0_0 l0_1 l0_2 = some r) ∧ Aside0 (kq ≤ k2) ∧ Aside0 (w'.heap[gb412]? = some (.cells #[(.slice A0_0 l0_0.length c0_0), (.slice A0_1 l0_1.length c0_1), (.slice A0_2 l0_2.length c0_2)] 60 (0, 0))) ∧ Aside0 (w'.heap[gb413]? = some (.cells #[(.slice A1_0 l1_0.length c1_0), (.slice A1_1 l1_1.length c1_1)] 40 (0, 0))) ∧ Aside0 (Below w.heap.size w w'))
     case atStart => exact ⟨(0), z47_1, H', ⟨Nat.le_refl _⟩, ⟨bu BK412.out⟩, ⟨bu BK413.out⟩, ⟨z47_6⟩⟩
     case round =>
      clear H'
      obtain ⟨x58_3, rfl, HA, HK3, BK412, BK413, HB⟩ := hrel
      cases gk with
      | zero => exact absurd HA.out (by simp [impl_scene_fits.l1])
      | succ k3 =>
       have H := HA.out
       clear HA
       simp only [impl_scene_fits.l1] at H
       by_cases c72 : x58_3 < (l1_1.length : Int)
       ·rw [if_pos c72] at H
        have c72b0 : decide (x58_3 < (l1_1.length : Int)) = true := decide_eq_true c72
        clear c72
        by_cases c73 : 0 ≤ x58_3
        ·rw [if_pos c73] at H
         have c73b0 : decide (0 ≤ x58_3) = true := decide_eq_true c73
         clear c73
         by_cases c74 : x58_3 < (l1_1.length : Int)
         ·rw [if_pos c74] at H
          have c74b0 : decide (x58_3 < (l1_1.length : Int)) = true := decide_eq_true c74
          clear c74
          replace H := Option.bind_eq_some_iff.mp H
          obtain ⟨t423, A750, H⟩ := H
          replace H : ((sorted_int.f k3 t423).bind fun t426 => ((impl_scene_writers.f k3 l0_0 l0_1 l0_2 x58_3).bind fun t429 => ((slices_Equal_int_int.f k3 t426 t429).bind fun t432 => (if t432 = true then (impl_scene_fits.l1 k3 l1_1 (l1_1.length : Int) (wrap64 (x58_3 + 1)) l0_0 l0_1 l0_2) else (some false))))) = some r := H
          have A75 := am_ A750
          clear A750
          replace H := Option.bind_eq_some_iff.mp H
          obtain ⟨t426, A760, H⟩ := H
          replace H : ((impl_scene_writers.f k3 l0_0 l0_1 l0_2 x58_3).bind fun t429 => ((slices_Equal_int_int.f k3 t426 t429).bind fun t432 => (if t432 = true then (impl_scene_fits.l1 k3 l1_1 (l1_1.length : Int) (wrap64 (x58_3 + 1)) l0_0 l0_1 l0_2) else (some false)))) = some r := H
          have A76 := am_ A760
          clear A760
          replace H := Option.bind_eq_some_iff.mp H
          obtain ⟨t429, A770, H⟩ := H
          replace H : ((slices_Equal_int_int.f k3 t426 t429).bind fun t432 => (if t432 = true then (impl_scene_fits.l1 k3 l1_1 (l1_1.length : Int) (wrap64 (x58_3 + 1)) l0_0 l0_1 l0_2) else (some false))) = some r := H
          have A77 := am_ A770
          clear A770
          replace H := Option.bind_eq_some_iff.mp H
          obtain ⟨t432, A780, H⟩ := H
          replace H : (if t432 = true then (impl_scene_fits.l1 k3 l1_1 (l1_1.length : Int) (wrap64 (x58_3 + 1)) l0_0 l0_1 l0_2) else (some false)) = some r := H
          have A78 := am_ A780
          clear A780
          by_cases c79 : t432 = true
          ·subst c79
           have H1 : (impl_scene_fits.l1 k3 l1_1 (l1_1.length : Int) (wrap64 (x58_3 + 1)) l0_0 l0_1 l0_2) = some r := by rw [if_pos rfl] at H; exact H
           clear H
           have H := H1
           clear H1
           have H' := am_ H
           clear H
           have p422 : 0 ≤ (x58_3 : Int) := of_decide_eq_true z47_2
           have q422 : x58_3 < (l1_1.length : Int) := of_decide_eq_true z47_2
           obtain ⟨ad422, A422_0, c422_0, e422, hx422_0, hl422_0, hi422_0⟩ := at_L5 HR1_1.out x58_3 p422 q422
           cases e422
           replace hx422_0 := (HB.out.cell (World.block_lt_of_cell? w _ hx422_0)).trans hx422_0
           have HR422_0 := am_ hi422_0
           have HC422_0 := am_ hl422_0
           clear hi422_0 hl422_0
           replace p422 := eq_true p422
           replace q422 := eq_true q422
           try go_wp2
           replace BK412 := am_ (blk_drew BK412.out)
           replace BK413 := am_ (blk_drew BK413.out)
           replace HB := am_ (below_drew1 HB.out)
           refine start_ (n := 8) (S := fun w' => w'.cell? ⟨gb412, 0, none⟩ = some (.slice A0_0 l0_0.length c0_0) ∧ w'.cell? ⟨gb412, 1, none⟩ = some (.slice A0_1 l0_1.length c0_1) ∧ w'.cell? ⟨gb412, 2, none⟩ = some (.slice A0_2 l0_2.length c0_2)) (ds := []) #[false, false, false, false, false, false, false, false] (by kernel_rfl) rfl rfl ⟨(blk_cell BK412.out 0).trans rfl, (blk_cell BK412.out 1).trans rfl, (blk_cell BK412.out 2).trans rfl⟩ (fun hHeld => ?_); refine with_tabW impl_scene_fits.tab16 impl_scene_fits.bits16 (fun HT_ HW_ => ?_)
           generalize wr.drew = w80 at BK412 BK413 HB hHeld ⊢
           refine pure_ (i := 0) (N := some 63) (v := ?_) (a' := ?_) #[true, false, false, false, false, false, false, false] rfl rfl (any_of HT_.out (by kernel_rfl)) (fun _ _ _ h => h) (Or.inl ⟨by rfl, ?_⟩) ?_ ?_
           rotate_left
           ·intro w'
            go_simp
            with_reducible rfl
           rotate_left
           ·simp only [Act.put, List.setIfInBounds_toArray, List.set_cons_zero, List.set_cons_succ, i64_w, i32_w]
            rfl
           refine pure_ (i := 4) (N := some 67) (v := ?_) (a' := ?_) #[true, false, false, false, true, false, false, false] rfl rfl (any_of HT_.out (by kernel_rfl)) (fun _ _ _ h => h) (Or.inl ⟨by rfl, ?_⟩) ?_ ?_
           rotate_left
           ·intro w'
            go_simp
            with_reducible rfl
           rotate_left
           ·simp only [Act.put, List.setIfInBounds_toArray, List.set_cons_zero, List.set_cons_succ, i64_w, i32_w]
            rfl
           refine take_ (i := 3) (N := some 66) (v := ?_) (a' := ?_) #[true, false, false, true, true, false, false, false] rfl rfl (take_ofW HT_.out HW_.out (by kernel_rfl)) (fun _ _ _ h => h) (Or.inl ⟨by rfl, ?_⟩) hHeld ?_ ?_
           rotate_left
           ·rintro w' ⟨s0, s1, s2⟩
            go_simp
            with_reducible rfl
           rotate_left
           ·simp only [Act.put, List.setIfInBounds_toArray, List.set_cons_zero, List.set_cons_succ, i64_w, i32_w]
            rfl
           refine one_ (i := 1) (N := some 64) #[true, true, false, true, true, false, false, false] rfl rfl (one_of HT_.out (by kernel_rfl)) (by decide) (fun K hK => ?_)
           refine goes_ Try.func55 (by kernel_rfl) rfl #[.slice A422_0 (rd_L5 l1_1 x58_3).length c422_0] (by rfl) rfl rfl (by (try simp only [List.map_toArray, List.map_cons, List.map_nil]); first | done | rfl | (simp only [List.length_drop, List.length_take]; rfl)) ?_
           refine (values_holds A422_0 c422_0 (rd_L5 l1_1 x58_3) _ (Kd.C_below HR422_0.out HB.out)).mono ?_
           rintro e w81 ⟨gV_, rfl, hV1_, hV2_, hV3_, hb⟩
           refine ⟨_, rfl, ?_⟩
           have HV1_ := am_ hV1_
           have HV2_ := am_ hV2_
           have HV3_ := am_ hV3_
           clear hV1_ hV2_ hV3_
           have HO425 := am_ (Kd.R_nil (Kd.int .i64) 3 w81 w.heap.size (fun _ => True))
           replace BK412 := am_ (blk_below (bu BK412.out) hb)
           replace BK413 := am_ (blk_below (bu BK413.out) hb)
           replace HB := am_ (below_step z47_6 hb)
           (try clear hb)
           (try clear hb2)
           (try clear hk)
           (try clear hi)
           (try clear ho0)
           refine hK.out _ _ ⟨(blk_cell BK412.out 0).trans rfl, (blk_cell BK412.out 1).trans rfl, (blk_cell BK412.out 2).trans rfl⟩ (fun hHeld => ?_)
           clear hK K
           refine norm_ (a' := ?_) ?_ ?_
           rotate_left
           ·show Act.put _ (some 64) _ = _
            simp only [Act.put, List.setIfInBounds_toArray, List.set_cons_zero, List.set_cons_succ, i64_w, i32_w]
            rfl
           refine one_ (i := 2) (N := some 65) #[true, true, true, true, true, false, false, false] rfl rfl (one_of HT_.out (by kernel_rfl)) (by decide) (fun K hK => ?_)
           refine goes_ Try.func54 (by kernel_rfl) rfl #[.func (.func 59) #[] #[.pointer (some ⟨gV_, 0, none⟩)]] (by rfl) rfl rfl (by (try simp only [List.map_toArray, List.map_cons, List.map_nil]); first | done | rfl | (simp only [List.length_drop, List.length_take]; rfl)) ?_
           obtain rfl : t423 = (rd_L5 l1_1 x58_3) := (Option.some.inj (show some _ = some _ from (by have h_ := A75.out; unfold slices_Clone_int_int_16.f at h_; split at h_; exact h_; cases h_))).symm
           with_reducible refine (sorted_int.calls _ _ t426 _ gV_ _ HV1_.out HV2_.out HV3_.out A76.out).mono ?_
           clear HV1_ HV2_ HV3_
           rintro e w83 ⟨v427, rfl, ho0, hb⟩
           refine ⟨_, rfl, ?_⟩
           have n0_ := am_ (Kd.R_elder' (ru HO425.out) (Kd.R_base ho0) hb)
           have n1_ := am_ (Kd.R_lower (Kd.R_new' ho0 (Kd.R_lt (ru HO425.out))) (below_size z47_6))
           have n2_ := am_ (blk_below (bu BK412.out) hb)
           have n3_ := am_ (blk_below (bu BK413.out) hb)
           have n4_ := am_ (below_step z47_6 hb)
           clear HO425 BK412 BK413 HB
           have HO425 := n0_
           have HO428 := n1_
           have BK412 := n2_
           have BK413 := n3_
           have HB := n4_
           clear n0_ n1_ n2_ n3_ n4_
           (try clear hb)
           (try clear hb2)
           (try clear hk)
           (try clear hi)
           (try clear ho0)
           refine hK.out _ _ ⟨(blk_cell BK412.out 0).trans rfl, (blk_cell BK412.out 1).trans rfl, (blk_cell BK412.out 2).trans rfl⟩ (fun hHeld => ?_)
           clear hK K
           refine norm_ (a' := ?_) ?_ ?_
           rotate_left
           ·show Act.put _ (some 65) _ = _
            simp only [Act.put, List.setIfInBounds_toArray, List.set_cons_zero, List.set_cons_succ, i64_w, i32_w]
            rfl
           refine one_ (i := 5) (N := some 68) #[true, true, true, true, true, true, false, false] rfl rfl (one_of HT_.out (by kernel_rfl)) (by decide) (fun K hK => ?_)
           refine goes_ Try.func45 (by kernel_rfl) rfl #[.agg #[.slice A0_0 l0_0.length c0_0, .slice A0_1 l0_1.length c0_1, .slice A0_2 l0_2.length c0_2], .int .i64 x58_3] (by rfl) rfl rfl (by (try simp only [List.map_toArray, List.map_cons, List.map_nil]); first | done | rfl | (simp only [List.length_drop, List.length_take]; rfl)) ?_
           with_reducible refine (impl_scene_writers.calls k3 _ _ l0_0 _ _ l0_1 _ _ l0_2 x58_3 t429 _ ?side1 ?side2 ?side3 ?side4 ?side5 ?side6 A77.out).mono ?_
           (case side1 => repeat (first | exact (Kd.C_below HR0_0.out HB.out) | (with_reducible refine Kd.C_alloc ?_ _) | (with_reducible refine Kd.C_drewN ?_ _) | (with_reducible refine Kd.C_drew ?_)))
           (case side2 => exact HC0_0.out)
           (case side3 => repeat (first | exact (Kd.C_below HR0_1.out HB.out) | (with_reducible refine Kd.C_alloc ?_ _) | (with_reducible refine Kd.C_drewN ?_ _) | (with_reducible refine Kd.C_drew ?_)))
           (case side4 => exact HC0_1.out)
           (case side5 => repeat (first | exact (Kd.C_below HR0_2.out HB.out) | (with_reducible refine Kd.C_alloc ?_ _) | (with_reducible refine Kd.C_drewN ?_ _) | (with_reducible refine Kd.C_drew ?_)))
           (case side6 => exact HC0_2.out)
           rintro e w84 ⟨v430, rfl, ho0, hb⟩
           refine ⟨_, rfl, ?_⟩
           have n0_ := am_ (Kd.R_elder' (ru HO425.out) (Kd.R_base ho0) hb)
           have n1_ := am_ (Kd.R_elder' (ru HO428.out) (Kd.R_base ho0) hb)
           have n2_ := am_ (Kd.R_lower (Kd.R_new' (Kd.R_new' ho0 (Kd.R_lt (ru HO425.out))) (Kd.R_lt (ru HO428.out))) (below_size z47_6))
           have n3_ := am_ (blk_below (bu BK412.out) hb)
           have n4_ := am_ (blk_below (bu BK413.out) hb)
           have n5_ := am_ (below_step z47_6 hb)
           clear HO425 HO428 BK412 BK413 HB
           have HO425 := n0_
           have HO428 := n1_
           have HO431 := n2_
           have BK412 := n3_
           have BK413 := n4_
           have HB := n5_
           clear n0_ n1_ n2_ n3_ n4_ n5_
           (try clear hb)
           (try clear hb2)
           (try clear hk)
           (try clear hi)
           (try clear ho0)
           obtain ⟨Ao85, co85, eo85⟩ := Kd.R_slice HO428.out
           (first | subst eo85 | (injection eo85 with f1_ f2_ f3_; have f4_ := f1_.symm; have f5_ := f3_.symm; clear f1_ f2_ f3_; subst f4_; subst f5_))
           obtain ⟨Ao86, co86, eo86⟩ := Kd.R_slice HO431.out
           (first | subst eo86 | (injection eo86 with f1_ f2_ f3_; have f4_ := f1_.symm; have f5_ := f3_.symm; clear f1_ f2_ f3_; subst f4_; subst f5_))
           refine hK.out _ _ ⟨(blk_cell BK412.out 0).trans rfl, (blk_cell BK412.out 1).trans rfl, (blk_cell BK412.out 2).trans rfl⟩ (fun hHeld => ?_)
           clear hK K
           refine norm_ (a' := ?_) ?_ ?_
           rotate_left
           ·show Act.put _ (some 68) _ = _
            simp only [Act.put, List.setIfInBounds_toArray, List.set_cons_zero, List.set_cons_succ, i64_w, i32_w]
            rfl
           refine one_ (i := 6) (N := some 69) #[true, true, true, true, true, true, true, false] rfl rfl (one_of HT_.out (by kernel_rfl)) (by decide) (fun K hK => ?_)
           refine goes_ Try.func53 (by kernel_rfl) rfl #[.slice Ao85 t426.length co85, .slice Ao86 t429.length co86] (by rfl) rfl rfl (by (try simp only [List.map_toArray, List.map_cons, List.map_nil]); first | done | rfl | (simp only [List.length_drop, List.length_take]; rfl)) ?_
           with_reducible refine (slices_Equal_int_int.calls k3 _ _ t426 _ _ t429 true _ ?side1 ?side2 ?side3 ?side4 A78.out).mono ?_
           (case side1 => repeat (first | exact (Kd.R_reads' HO428.out).2.2 | (with_reducible refine Kd.C_alloc ?_ _) | (with_reducible refine Kd.C_drewN ?_ _) | (with_reducible refine Kd.C_drew ?_)))
           (case side2 => exact (Kd.R_reads' HO428.out).2.1)
           (case side3 => repeat (first | exact (Kd.R_reads' HO431.out).2.2 | (with_reducible refine Kd.C_alloc ?_ _) | (with_reducible refine Kd.C_drewN ?_ _) | (with_reducible refine Kd.C_drew ?_)))
           (case side4 => exact (Kd.R_reads' HO431.out).2.1)
           rintro e w' ⟨rfl, ⟨nd, rfl⟩⟩
           refine ⟨_, rfl, ?_⟩
           refine hK.out _ _ ⟨(blk_cell BK412.out 0).trans rfl, (blk_cell BK412.out 1).trans rfl, (blk_cell BK412.out 2).trans rfl⟩ (fun hHeld => ?_)
           clear hK K
           refine norm_ (a' := ?_) ?_ ?_
           rotate_left
           ·show Act.put _ (some 69) _ = _
            simp only [Act.put, List.setIfInBounds_toArray, List.set_cons_zero, List.set_cons_succ, i64_w, i32_w]
            rfl
           refine pure_ (i := 7) (N := some 70) (v := ?_) (a' := ?_) #[true, true, true, true, true, true, true, true] rfl rfl (any_of HT_.out (by kernel_rfl)) (fun _ _ _ h => h) (Or.inl ⟨by rfl, ?_⟩) ?_ ?_
           rotate_left
           ·intro w'
            go_simp
            with_reducible rfl
           rotate_left
           ·simp only [Act.put, List.setIfInBounds_toArray, List.set_cons_zero, List.set_cons_succ, i64_w, i32_w]
            rfl
           refine done_ (done_of HT_.out (by kernel_rfl)) ?_
           try go_wp2
           go_roundg k3
           case measure => have := HJ2.out; have := HK2.out; have := HK3.out; omega
           case rel => exact ⟨(wrap64 (x58_3 + 1)), z47_1, H', ⟨by have := HJ2.out; have := HK2.out; have := HK3.out; omega⟩, ⟨bu BK412.out⟩, ⟨bu BK413.out⟩, ⟨z47_6⟩⟩
          replace c79 := Bool.eq_false_iff.mpr c79
          subst c79
          have H1 : (some false) = some r := by rw [if_neg (show ¬ (false = true) by decide)] at H; exact H
          clear H
          have H := H1
          clear H1
          obtain rfl := Option.some.inj H
          have p422 : 0 ≤ (x58_3 : Int) := of_decide_eq_true z47_2
          have q422 : x58_3 < (l1_1.length : Int) := of_decide_eq_true z47_2
          obtain ⟨ad422, A422_0, c422_0, e422, hx422_0, hl422_0, hi422_0⟩ := at_L5 HR1_1.out x58_3 p422 q422
          cases e422
          replace hx422_0 := (HB.out.cell (World.block_lt_of_cell? w _ hx422_0)).trans hx422_0
          have HR422_0 := am_ hi422_0
          have HC422_0 := am_ hl422_0
          clear hi422_0 hl422_0
          replace p422 := eq_true p422
          replace q422 := eq_true q422
          try go_wp2
          replace BK412 := am_ (blk_drew BK412.out)
          replace BK413 := am_ (blk_drew BK413.out)
          replace HB := am_ (below_drew1 HB.out)
          refine start_ (n := 8) (S := fun w' => w'.cell? ⟨gb412, 0, none⟩ = some (.slice A0_0 l0_0.length c0_0) ∧ w'.cell? ⟨gb412, 1, none⟩ = some (.slice A0_1 l0_1.length c0_1) ∧ w'.cell? ⟨gb412, 2, none⟩ = some (.slice A0_2 l0_2.length c0_2)) (ds := []) #[false, false, false, false, false, false, false, false] (by kernel_rfl) rfl rfl ⟨(blk_cell BK412.out 0).trans rfl, (blk_cell BK412.out 1).trans rfl, (blk_cell BK412.out 2).trans rfl⟩ (fun hHeld => ?_); refine with_tabW impl_scene_fits.tab16 impl_scene_fits.bits16 (fun HT_ HW_ => ?_)
          generalize wr.drew = w87 at BK412 BK413 HB hHeld ⊢
          refine pure_ (i := 0) (N := some 63) (v := ?_) (a' := ?_) #[true, false, false, false, false, false, false, false] rfl rfl (any_of HT_.out (by kernel_rfl)) (fun _ _ _ h => h) (Or.inl ⟨by rfl, ?_⟩) ?_ ?_
          rotate_left
          ·intro w'
           go_simp
           with_reducible rfl
          rotate_left
          ·simp only [Act.put, List.setIfInBounds_toArray, List.set_cons_zero, List.set_cons_succ, i64_w, i32_w]
           rfl
          refine pure_ (i := 4) (N := some 67) (v := ?_) (a' := ?_) #[true, false, false, false, true, false, false, false] rfl rfl (any_of HT_.out (by kernel_rfl)) (fun _ _ _ h => h) (Or.inl ⟨by rfl, ?_⟩) ?_ ?_
          rotate_left
          ·intro w'
           go_simp
           with_reducible rfl
          rotate_left
          ·simp only [Act.put, List.setIfInBounds_toArray, List.set_cons_zero, List.set_cons_succ, i64_w, i32_w]
           rfl
          refine take_ (i := 3) (N := some 66) (v := ?_) (a' := ?_) #[true, false, false, true, true, false, false, false] rfl rfl (take_ofW HT_.out HW_.out (by kernel_rfl)) (fun _ _ _ h => h) (Or.inl ⟨by rfl, ?_⟩) hHeld ?_ ?_
          rotate_left
          ·rintro w' ⟨s0, s1, s2⟩
           go_simp
           with_reducible rfl
          rotate_left
          ·simp only [Act.put, List.setIfInBounds_toArray, List.set_cons_zero, List.set_cons_succ, i64_w, i32_w]
           rfl
          refine one_ (i := 1) (N := some 64) #[true, true, false, true, true, false, false, false] rfl rfl (one_of HT_.out (by kernel_rfl)) (by decide) (fun K hK => ?_)
          refine goes_ Try.func55 (by kernel_rfl) rfl #[.slice A422_0 (rd_L5 l1_1 x58_3).length c422_0] (by rfl) rfl rfl (by (try simp only [List.map_toArray, List.map_cons, List.map_nil]); first | done | rfl | (simp only [List.length_drop, List.length_take]; rfl)) ?_
          refine (values_holds A422_0 c422_0 (rd_L5 l1_1 x58_3) _ (Kd.C_below HR422_0.out HB.out)).mono ?_
          rintro e w88 ⟨gV_, rfl, hV1_, hV2_, hV3_, hb⟩
          refine ⟨_, rfl, ?_⟩
          have HV1_ := am_ hV1_
          have HV2_ := am_ hV2_
          have HV3_ := am_ hV3_
          clear hV1_ hV2_ hV3_
          have HO425 := am_ (Kd.R_nil (Kd.int .i64) 3 w88 w.heap.size (fun _ => True))
          replace BK412 := am_ (blk_below (bu BK412.out) hb)
          replace BK413 := am_ (blk_below (bu BK413.out) hb)
          replace HB := am_ (below_step z47_6 hb)
          (try clear hb)
          (try clear hb2)
          (try clear hk)
          (try clear hi)
          (try clear ho0)
          refine hK.out _ _ ⟨(blk_cell BK412.out 0).trans rfl, (blk_cell BK412.out 1).trans rfl, (blk_cell BK412.out 2).trans rfl⟩ (fun hHeld => ?_)
          clear hK K
          refine norm_ (a' := ?_) ?_ ?_
          rotate_left
          ·show Act.put _ (some 64) _ = _
           simp only [Act.put, List.setIfInBounds_toArray, List.set_cons_zero, List.set_cons_succ, i64_w, i32_w]
           rfl
          refine one_ (i := 2) (N := some 65) #[true, true, true, true, true, false, false, false] rfl rfl (one_of HT_.out (by kernel_rfl)) (by decide) (fun K hK => ?_)
          refine goes_ Try.func54 (by kernel_rfl) rfl #[.func (.func 59) #[] #[.pointer (some ⟨gV_, 0, none⟩)]] (by rfl) rfl rfl (by (try simp only [List.map_toArray, List.map_cons, List.map_nil]); first | done | rfl | (simp only [List.length_drop, List.length_take]; rfl)) ?_
          obtain rfl : t423 = (rd_L5 l1_1 x58_3) := (Option.some.inj (show some _ = some _ from (by have h_ := A75.out; unfold slices_Clone_int_int_16.f at h_; split at h_; exact h_; cases h_))).symm
          with_reducible refine (sorted_int.calls _ _ t426 _ gV_ _ HV1_.out HV2_.out HV3_.out A76.out).mono ?_
          clear HV1_ HV2_ HV3_
          rintro e w90 ⟨v427, rfl, ho0, hb⟩
          refine ⟨_, rfl, ?_⟩
          have n0_ := am_ (Kd.R_elder' (ru HO425.out) (Kd.R_base ho0) hb)
          have n1_ := am_ (Kd.R_lower (Kd.R_new' ho0 (Kd.R_lt (ru HO425.out))) (below_size z47_6))
          have n2_ := am_ (blk_below (bu BK412.out) hb)
          have n3_ := am_ (blk_below (bu BK413.out) hb)
          have n4_ := am_ (below_step z47_6 hb)
          clear HO425 BK412 BK413 HB
          have HO425 := n0_
          have HO428 := n1_
          have BK412 := n2_
          have BK413 := n3_
          have HB := n4_
          clear n0_ n1_ n2_ n3_ n4_
          (try clear hb)
          (try clear hb2)
          (try clear hk)
          (try clear hi)
          (try clear ho0)
          refine hK.out _ _ ⟨(blk_cell BK412.out 0).trans rfl, (blk_cell BK412.out 1).trans rfl, (blk_cell BK412.out 2).trans rfl⟩ (fun hHeld => ?_)
          clear hK K
          refine norm_ (a' := ?_) ?_ ?_
          rotate_left
          ·show Act.put _ (some 65) _ = _
           simp only [Act.put, List.setIfInBounds_toArray, List.set_cons_zero, List.set_cons_succ, i64_w, i32_w]
           rfl
          refine one_ (i := 5) (N := some 68) #[true, true, true, true, true, true, false, false] rfl rfl (one_of HT_.out (by kernel_rfl)) (by decide) (fun K hK => ?_)
          refine goes_ Try.func45 (by kernel_rfl) rfl #[.agg #[.slice A0_0 l0_0.length c0_0, .slice A0_1 l0_1.length c0_1, .slice A0_2 l0_2.length c0_2], .int .i64 x58_3] (by rfl) rfl rfl (by (try simp only [List.map_toArray, List.map_cons, List.map_nil]); first | done | rfl | (simp only [List.length_drop, List.length_take]; rfl)) ?_
          with_reducible refine (impl_scene_writers.calls k3 _ _ l0_0 _ _ l0_1 _ _ l0_2 x58_3 t429 _ ?side1 ?side2 ?side3 ?side4 ?side5 ?side6 A77.out).mono ?_
          (case side1 => repeat (first | exact (Kd.C_below HR0_0.out HB.out) | (with_reducible refine Kd.C_alloc ?_ _) | (with_reducible refine Kd.C_drewN ?_ _) | (with_reducible refine Kd.C_drew ?_)))
          (case side2 => exact HC0_0.out)
          (case side3 => repeat (first | exact (Kd.C_below HR0_1.out HB.out) | (with_reducible refine Kd.C_alloc ?_ _) | (with_reducible refine Kd.C_drewN ?_ _) | (with_reducible refine Kd.C_drew ?_)))
          (case side4 => exact HC0_1.out)
          (case side5 => repeat (first | exact (Kd.C_below HR0_2.out HB.out) | (with_reducible refine Kd.C_alloc ?_ _) | (with_reducible refine Kd.C_drewN ?_ _) | (with_reducible refine Kd.C_drew ?_)))
          (case side6 => exact HC0_2.out)
          rintro e w91 ⟨v430, rfl, ho0, hb⟩
          refine ⟨_, rfl, ?_⟩
          have n0_ := am_ (Kd.R_elder' (ru HO425.out) (Kd.R_base ho0) hb)
          have n1_ := am_ (Kd.R_elder' (ru HO428.out) (Kd.R_base ho0) hb)
          have n2_ := am_ (Kd.R_lower (Kd.R_new' (Kd.R_new' ho0 (Kd.R_lt (ru HO425.out))) (Kd.R_lt (ru HO428.out))) (below_size z47_6))
          have n3_ := am_ (blk_below (bu BK412.out) hb)
          have n4_ := am_ (blk_below (bu BK413.out) hb)
          have n5_ := am_ (below_step z47_6 hb)
          clear HO425 HO428 BK412 BK413 HB
          have HO425 := n0_
          have HO428 := n1_
          have HO431 := n2_
          have BK412 := n3_
          have BK413 := n4_
          have HB := n5_
          clear n0_ n1_ n2_ n3_ n4_ n5_
          (try clear hb)
          (try clear hb2)
          (try clear hk)
          (try clear hi)
          (try clear ho0)
          obtain ⟨Ao92, co92, eo92⟩ := Kd.R_slice HO428.out
          (first | subst eo92 | (injection eo92 with f1_ f2_ f3_; have f4_ := f1_.symm; have f5_ := f3_.symm; clear f1_ f2_ f3_; subst f4_; subst f5_))
          obtain ⟨Ao93, co93, eo93⟩ := Kd.R_slice HO431.out
          (first | subst eo93 | (injection eo93 with f1_ f2_ f3_; have f4_ := f1_.symm; have f5_ := f3_.symm; clear f1_ f2_ f3_; subst f4_; subst f5_))
          refine hK.out _ _ ⟨(blk_cell BK412.out 0).trans rfl, (blk_cell BK412.out 1).trans rfl, (blk_cell BK412.out 2).trans rfl⟩ (fun hHeld => ?_)
          clear hK K
          refine norm_ (a' := ?_) ?_ ?_
          rotate_left
          ·show Act.put _ (some 68) _ = _
           simp only [Act.put, List.setIfInBounds_toArray, List.set_cons_zero, List.set_cons_succ, i64_w, i32_w]
           rfl
          refine one_ (i := 6) (N := some 69) #[true, true, true, true, true, true, true, false] rfl rfl (one_of HT_.out (by kernel_rfl)) (by decide) (fun K hK => ?_)
          refine goes_ Try.func53 (by kernel_rfl) rfl #[.slice Ao92 t426.length co92, .slice Ao93 t429.length co93] (by rfl) rfl rfl (by (try simp only [List.map_toArray, List.map_cons, List.map_nil]); first | done | rfl | (simp only [List.length_drop, List.length_take]; rfl)) ?_
          with_reducible refine (slices_Equal_int_int.calls k3 _ _ t426 _ _ t429 false _ ?side1 ?side2 ?side3 ?side4 A78.out).mono ?_
          (case side1 => repeat (first | exact (Kd.R_reads' HO428.out).2.2 | (with_reducible refine Kd.C_alloc ?_ _) | (with_reducible refine Kd.C_drewN ?_ _) | (with_reducible refine Kd.C_drew ?_)))
          (case side2 => exact (Kd.R_reads' HO428.out).2.1)
          (case side3 => repeat (first | exact (Kd.R_reads' HO431.out).2.2 | (with_reducible refine Kd.C_alloc ?_ _) | (with_reducible refine Kd.C_drewN ?_ _) | (with_reducible refine Kd.C_drew ?_)))
          (case side4 => exact (Kd.R_reads' HO431.out).2.1)
          rintro e w' ⟨rfl, ⟨nd, rfl⟩⟩
          refine ⟨_, rfl, ?_⟩
          refine hK.out _ _ ⟨(blk_cell BK412.out 0).trans rfl, (blk_cell BK412.out 1).trans rfl, (blk_cell BK412.out 2).trans rfl⟩ (fun hHeld => ?_)
          clear hK K
          refine norm_ (a' := ?_) ?_ ?_
          rotate_left
          ·show Act.put _ (some 69) _ = _
           simp only [Act.put, List.setIfInBounds_toArray, List.set_cons_zero, List.set_cons_succ, i64_w, i32_w]
           rfl
          refine pure_ (i := 7) (N := some 70) (v := ?_) (a' := ?_) #[true, true, true, true, true, true, true, true] rfl rfl (any_of HT_.out (by kernel_rfl)) (fun _ _ _ h => h) (Or.inl ⟨by rfl, ?_⟩) ?_ ?_
          rotate_left
          ·intro w'
           go_simp
           with_reducible rfl
          rotate_left
          ·simp only [Act.put, List.setIfInBounds_toArray, List.set_cons_zero, List.set_cons_succ, i64_w, i32_w]
           rfl
          refine done_ (done_of HT_.out (by kernel_rfl)) ?_
          try go_wp2
          go_ret
          exact ⟨z47_3, z47_6⟩
         rw [if_neg c74] at H
         exact absurd H (by simp)
        rw [if_neg c73] at H
        exact absurd H (by simp)
       rw [if_neg c72] at H
       have c72b0 : decide (x58_3 < (l1_1.length : Int)) = false := decide_eq_false c72
       clear c72
       obtain rfl := Option.some.inj H
       go_wp2
       go_ret
       exact ⟨z47_3, z47_6⟩

end Go.Proofs.Ytmkchdlkpbnldaa.PB

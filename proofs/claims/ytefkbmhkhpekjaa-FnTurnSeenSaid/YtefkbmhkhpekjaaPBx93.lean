-- Written by this session's wip/myprint.py (the kit's print.py, with hand-written chunks). Lean checks it.
import Derived.Test.YtefkbmhkhpekjaaPBx0
import Derived.Test.YtefkbmhkhpekjaaPBx87
import Derived.Test.YtefkbmhkhpekjaaPBx125
namespace Go.Proofs.Ytefkbmhkhpekjaa.PB
open Go.RowKit Go.Proofs.YtefkbmhkhpekjaaW.PrintWords Go.Proofs.YtefkbmhkhpekjaaW.PrintLast Go.Proofs.YtefkbmhkhpekjaaW.PrintMore
attribute [local go_sem] max2_int min2_int max_two min_two max_three min_three max_four min_four   -- for this text's walks alone
open Go.Proofs.YtefkbmhkhpekjaaMine
set_option linter.unusedVariables false
set_option linter.unusedSimpArgs false

theorem z93_1 {p : Prop} (h : p := by first | rfl | (simp; done) | (simp [*]; done)) : p := h
theorem z93_2 {p : Prop} (h : p := by first | rfl | (simp [errW_none, errW_some] <;> rfl) | (simp [*, errW_none, errW_some] <;> rfl)) : p := h
theorem z93_3 {p : Prop} (h : p := by repeat (first | (with_reducible first | exact HB.out | apply below_alloc | apply pw_below_drewN | apply below_drew1) | exact HB.out)) : p := h
theorem z93_4 {p : Prop} (h : p := by repeat (first | (with_reducible first | exact HB.out | apply below_alloc | apply pw_below_drewN | apply below_drew1 | refine below_set ?_ GE568.out) | exact HB.out)) : p := h
theorem z93_5 {p : Prop} (h : p := by (with_reducible repeat (first | refine blk_drewN ?_ _ | refine blk_drew ?_ | refine blk_alloc ?_ _)); refine blk_put (cs := #[.int .i64 ((rd_T85 l0 x5_1).f0), .int .i64 ((rd_T85 l0 x5_1).f1), .int .i64 0]) ?_ 2 _ rfl; (with_reducible repeat (first | refine blk_drewN ?_ _ | refine blk_drew ?_ | refine blk_alloc ?_ _)); refine blk_put (cs := #[.int .i64 ((rd_T85 l0 x5_1).f0), .int .i64 0, .int .i64 0]) ?_ 1 _ rfl; (with_reducible repeat (first | refine blk_drewN ?_ _ | refine blk_drew ?_ | refine blk_alloc ?_ _)); refine blk_put (cs := #[.int .i64 0, .int .i64 0, .int .i64 0]) ?_ 0 _ rfl; (with_reducible repeat (first | refine blk_drewN ?_ _ | refine blk_drew ?_ | refine blk_alloc ?_ _)); exact BK568.out) : p := h
/-! ### spec_l1Thread: function 93 -/
mutual
def spec_l1Thread.l0 : Nat → List (S85) → Bool → Bool → Int → Option (Bool)
  | 0, _, _, _, _ => none
  | k + 1, x0, x3, x4, x5 => if x5 < (x0.length : Int) then (if 0 ≤ x5 then ((spec_l1Do.f k ((rd_T85 x0 x5).f0) ((rd_T85 x0 x5).f1) ((rd_T85 x0 x5).f2)).bind fun t569 => (if t569 = true then (if ((rd_T85 x0 x5).f0) = 3 then (if x3 = true then (if ((rd_T85 x0 x5).f0) = 7 then (if x4 = true then (spec_l1Thread.j1 k x0 x3 x4 x5 true ((rd_T85 x0 x5).f0) ((rd_T85 x0 x5).f1) ((rd_T85 x0 x5).f2)) else (if ((rd_T85 x0 x5).f0) = 8 then (spec_l1Thread.j1 k x0 x3 x4 x5 true ((rd_T85 x0 x5).f0) ((rd_T85 x0 x5).f1) ((rd_T85 x0 x5).f2)) else (if ((rd_T85 x0 x5).f0) = 9 then (spec_l1Thread.j1 k x0 x3 x4 x5 x4 ((rd_T85 x0 x5).f0) ((rd_T85 x0 x5).f1) ((rd_T85 x0 x5).f2)) else (spec_l1Thread.j1 k x0 x3 x4 x5 false ((rd_T85 x0 x5).f0) ((rd_T85 x0 x5).f1) ((rd_T85 x0 x5).f2))))) else (if ((rd_T85 x0 x5).f0) = 8 then (if x4 = true then (if ((rd_T85 x0 x5).f0) = 9 then (spec_l1Thread.j1 k x0 x3 x4 x5 x4 ((rd_T85 x0 x5).f0) ((rd_T85 x0 x5).f1) ((rd_T85 x0 x5).f2)) else (spec_l1Thread.j1 k x0 x3 x4 x5 false ((rd_T85 x0 x5).f0) ((rd_T85 x0 x5).f1) ((rd_T85 x0 x5).f2))) else (spec_l1Thread.j1 k x0 x3 x4 x5 true ((rd_T85 x0 x5).f0) ((rd_T85 x0 x5).f1) ((rd_T85 x0 x5).f2))) else (if ((rd_T85 x0 x5).f0) = 9 then (spec_l1Thread.j1 k x0 x3 x4 x5 x4 ((rd_T85 x0 x5).f0) ((rd_T85 x0 x5).f1) ((rd_T85 x0 x5).f2)) else (spec_l1Thread.j1 k x0 x3 x4 x5 false ((rd_T85 x0 x5).f0) ((rd_T85 x0 x5).f1) ((rd_T85 x0 x5).f2))))) else (spec_l1Thread.j1 k x0 x3 x4 x5 true ((rd_T85 x0 x5).f0) ((rd_T85 x0 x5).f1) ((rd_T85 x0 x5).f2))) else (if ((rd_T85 x0 x5).f0) = 7 then (if x4 = true then (spec_l1Thread.j1 k x0 x3 x4 x5 true ((rd_T85 x0 x5).f0) ((rd_T85 x0 x5).f1) ((rd_T85 x0 x5).f2)) else (if ((rd_T85 x0 x5).f0) = 8 then (spec_l1Thread.j1 k x0 x3 x4 x5 true ((rd_T85 x0 x5).f0) ((rd_T85 x0 x5).f1) ((rd_T85 x0 x5).f2)) else (if ((rd_T85 x0 x5).f0) = 9 then (spec_l1Thread.j1 k x0 x3 x4 x5 x4 ((rd_T85 x0 x5).f0) ((rd_T85 x0 x5).f1) ((rd_T85 x0 x5).f2)) else (spec_l1Thread.j1 k x0 x3 x4 x5 false ((rd_T85 x0 x5).f0) ((rd_T85 x0 x5).f1) ((rd_T85 x0 x5).f2))))) else (if ((rd_T85 x0 x5).f0) = 8 then (if x4 = true then (if ((rd_T85 x0 x5).f0) = 9 then (spec_l1Thread.j1 k x0 x3 x4 x5 x4 ((rd_T85 x0 x5).f0) ((rd_T85 x0 x5).f1) ((rd_T85 x0 x5).f2)) else (spec_l1Thread.j1 k x0 x3 x4 x5 false ((rd_T85 x0 x5).f0) ((rd_T85 x0 x5).f1) ((rd_T85 x0 x5).f2))) else (spec_l1Thread.j1 k x0 x3 x4 x5 true ((rd_T85 x0 x5).f0) ((rd_T85 x0 x5).f1) ((rd_T85 x0 x5).f2))) else (if ((rd_T85 x0 x5).f0) = 9 then (spec_l1Thread.j1 k x0 x3 x4 x5 x4 ((rd_T85 x0 x5).f0) ((rd_T85 x0 x5).f1) ((rd_T85 x0 x5).f2)) else (spec_l1Thread.j1 k x0 x3 x4 x5 false ((rd_T85 x0 x5).f0) ((rd_T85 x0 x5).f1) ((rd_T85 x0 x5).f2)))))) else (spec_l1Thread.j1 k x0 x3 x4 x5 true ((rd_T85 x0 x5).f0) ((rd_T85 x0 x5).f1) ((rd_T85 x0 x5).f2)))) else (none)) else (some (!x4))
def spec_l1Thread.j1 : Nat → List (S85) → Bool → Bool → Int → Bool → Int → Int → Int → Option (Bool)
  | 0, _, _, _, _, _, _, _, _ => none
  | k + 1, x0, x3, x4, x5, x56, x00, x01, x02 => if x56 = true then (some false) else (if x3 = true then (spec_l1Thread.j2 k x0 true x4 x5 x00 x01 x02) else ((spec_l1Reads.f x00 x01 x02).bind fun t570 => (spec_l1Thread.j2 k x0 t570 x4 x5 x00 x01 x02)))
def spec_l1Thread.j2 : Nat → List (S85) → Bool → Bool → Int → Int → Int → Int → Option (Bool)
  | 0, _, _, _, _, _, _, _ => none
  | k + 1, x0, x3, x4, x5, x00, x01, x02 => if x00 = 7 then (spec_l1Thread.l0 k x0 x3 true (wrap64 (x5 + 1))) else (if x00 = 8 then (spec_l1Thread.l0 k x0 x3 false (wrap64 (x5 + 1))) else (spec_l1Thread.l0 k x0 x3 x4 (wrap64 (x5 + 1))))
end
def spec_l1Thread.f (k : Nat) (l0 : List (S85)) : Option (Bool) := if (l0.length : Int) > 7 then (some false) else (spec_l1Thread.l0 k l0 false false 0)
set_option maxHeartbeats 8000000 in
set_option maxRecDepth 100000 in
theorem spec_l1Thread.calls (k : Nat) (A0 : Option Addr) (c0 : Nat) (l0 : List (S85)) (r : Bool) (w : World) (hr0 : Kd.C k85 w A0 l0.length l0) (hc0 : l0.length ≤ c0) (h : spec_l1Thread.f k l0 = some r) :
  Calls Try.prog 93 #[.slice A0 l0.length c0] w fun e w' => e = .returned (.bool r) ∧ Below w.heap.size w w' := by
 have hu85 := Try.underlying85
 have HR0 := am_ hr0
 have HC0 := am_ hc0
 clear hr0 hc0
 have HB := am_ (Below.refl w.heap.size w)
 have H : (if (l0.length : Int) > 7 then (some false) else (spec_l1Thread.l0 k l0 false false 0)) = some r := h
 clear h
 by_cases c2 : (l0.length : Int) > 7
 ·rw [if_pos c2] at H
  have c2b0 : decide (7 < (l0.length : Int)) = true := decide_eq_true c2
  have c2b1 : decide (7 < l0.length) = true := decide_eq_true (by omega)
  clear c2
  obtain rfl := Option.some.inj H
  go_enter Try.func93, Try.ntmps93
  go_wp2
  go_ret
  exact ⟨z93_2, z93_3⟩
 rw [if_neg c2] at H
 have c2b0 : decide (7 < (l0.length : Int)) = false := decide_eq_false c2
 have c2b1 : decide (7 < l0.length) = false := decide_eq_false (by omega)
 clear c2
 have H' := am_ H
 clear H
 go_enter Try.func93, Try.ntmps93
 go_wp2
 go_loopg [3, 4, 5] k (fun kq v3 v4 v5 w' => ∃ (x3_1 : Bool) (x4_1 : Bool) (x5_1 : Int), v3 = .bool x3_1 ∧ v4 = .bool x4_1 ∧ v5 = .int .i64 x5_1 ∧ Aside0 (spec_l1Thread.l0 kq l0 x3_1 x4_1 x5_1 = some r) ∧ Aside0 (kq ≤ k) ∧ Aside0 (Below w.heap.size w w'))
 case atStart => exact ⟨(false), (false), (0), z93_1, z93_1, z93_1, H', ⟨Nat.le_refl _⟩, ⟨z93_3⟩⟩
 case round =>
  clear H'
  obtain ⟨x3_1, x4_1, x5_1, rfl, rfl, rfl, HA, HK1, HB⟩ := hrel
  cases gk with
  | zero => exact absurd HA.out (by simp [spec_l1Thread.l0])
  | succ k1 =>
   have H := HA.out
   clear HA
   simp only [spec_l1Thread.l0] at H
   by_cases c3 : x5_1 < (l0.length : Int)
   ·rw [if_pos c3] at H
    have c3b0 : decide (x5_1 < (l0.length : Int)) = true := decide_eq_true c3
    clear c3
    by_cases c4 : 0 ≤ x5_1
    ·rw [if_pos c4] at H
     have c4b0 : decide (0 ≤ x5_1) = true := decide_eq_true c4
     clear c4
     have HC5 := am_ H
     clear H
     have p567 : 0 ≤ (x5_1 : Int) := of_decide_eq_true (by first | (with_reducible assumption) | assumption)
     have q567 : x5_1 < (l0.length : Int) := of_decide_eq_true (by first | (with_reducible assumption) | assumption)
     obtain ⟨ad567, e567, hx567_0, hx567_1, hx567_2⟩ := at_T85 HR0.out x5_1 p567 q567
     cases e567
     replace hx567_0 := (HB.out.cell (World.block_lt_of_cell? w _ hx567_0)).trans hx567_0
     replace hx567_1 := (HB.out.cell (World.block_lt_of_cell? w _ hx567_1)).trans hx567_1
     replace hx567_2 := (HB.out.cell (World.block_lt_of_cell? w _ hx567_2)).trans hx567_2
     replace p567 := eq_true p567
     replace q567 := eq_true q567
     go_upto_region 9 with (first | ((with_reducible refine gate_dst (N := 6) rfl ?_); refine box_event ?hg (N := 6) ?hd (cs := #[.int .i64 0, .int .i64 0, .int .i64 0]) (t := 85) ?hr ?_; (case hd => rfl); (case hg => rfl); (case hr => first | (go_simp; done) | (go_simp; rfl)); intro gb568 hg w6 hbox hb; have n0_ := am_ (below_step z93_3 hb); have n1_ := am_ (hbox); have n2_ := am_ (by rw [hg]; exact (below_size z93_3) : w.heap.size ≤ gb568); have n3_ := am_ (by rw [hg]; exact (below_size z93_3) : w.heap.size ≤ gb568); clear HB; have HB := n0_; have BK568 := n1_; have GW568 := n2_; have GE568 := n3_; clear n0_ n1_ n2_ n3_; clear hb hbox hg; have hcz7_0 := cf0 BK568.out; have hcz7_1 := cf1 BK568.out; have hcz7_2 := cf2 BK568.out; have hfz7_0 := blk_frozen BK568.out 0; have hfz7_1 := blk_frozen BK568.out 1; have hfz7_2 := blk_frozen BK568.out 2))
     (try simp only [Act.put, List.setIfInBounds_toArray, List.set_cons_zero, List.set_cons_succ])
     go_cut [56] (fun v56 wc => ∃ (kq : Nat) (x56_4 : Bool), v56 = .bool x56_4 ∧ Aside0 (spec_l1Thread.j1 kq l0 x3_1 x4_1 x5_1 x56_4 ((rd_T85 l0 x5_1).f0) ((rd_T85 l0 x5_1).f1) ((rd_T85 l0 x5_1).f2) = some r) ∧ Aside0 (kq ≤ k1) ∧ Aside0 (wc.heap[gb568]? = some (.cells #[.int .i64 ((rd_T85 l0 x5_1).f0), .int .i64 ((rd_T85 l0 x5_1).f1), .int .i64 ((rd_T85 l0 x5_1).f2)] 85 (0, 0))) ∧ Aside0 (Below w.heap.size w wc))
     case first =>
      have H := HC5.out
      clear HC5
      replace H := Option.bind_eq_some_iff.mp H
      obtain ⟨t569, A80, H⟩ := H
      replace H : (if t569 = true then (if ((rd_T85 l0 x5_1).f0) = 3 then (if x3_1 = true then (if ((rd_T85 l0 x5_1).f0) = 7 then (if x4_1 = true then (spec_l1Thread.j1 k1 l0 x3_1 x4_1 x5_1 true ((rd_T85 l0 x5_1).f0) ((rd_T85 l0 x5_1).f1) ((rd_T85 l0 x5_1).f2)) else (if ((rd_T85 l0 x5_1).f0) = 8 then (spec_l1Thread.j1 k1 l0 x3_1 x4_1 x5_1 true ((rd_T85 l0 x5_1).f0) ((rd_T85 l0 x5_1).f1) ((rd_T85 l0 x5_1).f2)) else (if ((rd_T85 l0 x5_1).f0) = 9 then (spec_l1Thread.j1 k1 l0 x3_1 x4_1 x5_1 x4_1 ((rd_T85 l0 x5_1).f0) ((rd_T85 l0 x5_1).f1) ((rd_T85 l0 x5_1).f2)) else (spec_l1Thread.j1 k1 l0 x3_1 x4_1 x5_1 false ((rd_T85 l0 x5_1).f0) ((rd_T85 l0 x5_1).f1) ((rd_T85 l0 x5_1).f2))))) else (if ((rd_T85 l0 x5_1).f0) = 8 then (if x4_1 = true then (if ((rd_T85 l0 x5_1).f0) = 9 then (spec_l1Thread.j1 k1 l0 x3_1 x4_1 x5_1 x4_1 ((rd_T85 l0 x5_1).f0) ((rd_T85 l0 x5_1).f1) ((rd_T85 l0 x5_1).f2)) else (spec_l1Thread.j1 k1 l0 x3_1 x4_1 x5_1 false ((rd_T85 l0 x5_1).f0) ((rd_T85 l0 x5_1).f1) ((rd_T85 l0 x5_1).f2))) else (spec_l1Thread.j1 k1 l0 x3_1 x4_1 x5_1 true ((rd_T85 l0 x5_1).f0) ((rd_T85 l0 x5_1).f1) ((rd_T85 l0 x5_1).f2))) else (if ((rd_T85 l0 x5_1).f0) = 9 then (spec_l1Thread.j1 k1 l0 x3_1 x4_1 x5_1 x4_1 ((rd_T85 l0 x5_1).f0) ((rd_T85 l0 x5_1).f1) ((rd_T85 l0 x5_1).f2)) else (spec_l1Thread.j1 k1 l0 x3_1 x4_1 x5_1 false ((rd_T85 l0 x5_1).f0) ((rd_T85 l0 x5_1).f1) ((rd_T85 l0 x5_1).f2))))) else (spec_l1Thread.j1 k1 l0 x3_1 x4_1 x5_1 true ((rd_T85 l0 x5_1).f0) ((rd_T85 l0 x5_1).f1) ((rd_T85 l0 x5_1).f2))) else (if ((rd_T85 l0 x5_1).f0) = 7 then (if x4_1 = true then (spec_l1Thread.j1 k1 l0 x3_1 x4_1 x5_1 true ((rd_T85 l0 x5_1).f0) ((rd_T85 l0 x5_1).f1) ((rd_T85 l0 x5_1).f2)) else (if ((rd_T85 l0 x5_1).f0) = 8 then (spec_l1Thread.j1 k1 l0 x3_1 x4_1 x5_1 true ((rd_T85 l0 x5_1).f0) ((rd_T85 l0 x5_1).f1) ((rd_T85 l0 x5_1).f2)) else (if ((rd_T85 l0 x5_1).f0) = 9 then (spec_l1Thread.j1 k1 l0 x3_1 x4_1 x5_1 x4_1 ((rd_T85 l0 x5_1).f0) ((rd_T85 l0 x5_1).f1) ((rd_T85 l0 x5_1).f2)) else (spec_l1Thread.j1 k1 l0 x3_1 x4_1 x5_1 false ((rd_T85 l0 x5_1).f0) ((rd_T85 l0 x5_1).f1) ((rd_T85 l0 x5_1).f2))))) else (if ((rd_T85 l0 x5_1).f0) = 8 then (if x4_1 = true then (if ((rd_T85 l0 x5_1).f0) = 9 then (spec_l1Thread.j1 k1 l0 x3_1 x4_1 x5_1 x4_1 ((rd_T85 l0 x5_1).f0) ((rd_T85 l0 x5_1).f1) ((rd_T85 l0 x5_1).f2)) else (spec_l1Thread.j1 k1 l0 x3_1 x4_1 x5_1 false ((rd_T85 l0 x5_1).f0) ((rd_T85 l0 x5_1).f1) ((rd_T85 l0 x5_1).f2))) else (spec_l1Thread.j1 k1 l0 x3_1 x4_1 x5_1 true ((rd_T85 l0 x5_1).f0) ((rd_T85 l0 x5_1).f1) ((rd_T85 l0 x5_1).f2))) else (if ((rd_T85 l0 x5_1).f0) = 9 then (spec_l1Thread.j1 k1 l0 x3_1 x4_1 x5_1 x4_1 ((rd_T85 l0 x5_1).f0) ((rd_T85 l0 x5_1).f1) ((rd_T85 l0 x5_1).f2)) else (spec_l1Thread.j1 k1 l0 x3_1 x4_1 x5_1 false ((rd_T85 l0 x5_1).f0) ((rd_T85 l0 x5_1).f1) ((rd_T85 l0 x5_1).f2)))))) else (spec_l1Thread.j1 k1 l0 x3_1 x4_1 x5_1 true ((rd_T85 l0 x5_1).f0) ((rd_T85 l0 x5_1).f1) ((rd_T85 l0 x5_1).f2))) = some r := H
      have A8 := am_ A80
      clear A80
      have hcz0 := cf0 BK568.out
      have hcz1 := cf1 BK568.out
      have hcz2 := cf2 BK568.out
      have hfz0 := blk_frozen BK568.out 0
      have hfz1 := blk_frozen BK568.out 1
      have hfz2 := blk_frozen BK568.out 2
      go_wp2_with (go_at_call 125; refine park ?_)
      clear hcz0 hcz1 hcz2 hfz0 hfz1 hfz2
      refine ⟨?_⟩
      refine (spec_l1Do.calls k1 ((rd_T85 l0 x5_1).f0) ((rd_T85 l0 x5_1).f1) ((rd_T85 l0 x5_1).f2) t569 _ A8.out).mono ?_
      rintro e w32 ⟨rfl, hb⟩
      replace BK568 := am_ (blk_below (g := gb568) (o := .cells #[.int .i64 ((rd_T85 l0 x5_1).f0), .int .i64 ((rd_T85 l0 x5_1).f1), .int .i64 ((rd_T85 l0 x5_1).f2)] 85 (0, 0)) z93_5 hb)
      replace HB := am_ (below_step z93_4 hb)
      clear hb
      have hcz0 := cf0 BK568.out
      have hcz1 := cf1 BK568.out
      have hcz2 := cf2 BK568.out
      have hfz0 := blk_frozen BK568.out 0
      have hfz1 := blk_frozen BK568.out 1
      have hfz2 := blk_frozen BK568.out 2
      by_cases c9 : t569 = true
      ·subst c9
       have H1 : (if ((rd_T85 l0 x5_1).f0) = 3 then (if x3_1 = true then (if ((rd_T85 l0 x5_1).f0) = 7 then (if x4_1 = true then (spec_l1Thread.j1 k1 l0 x3_1 x4_1 x5_1 true ((rd_T85 l0 x5_1).f0) ((rd_T85 l0 x5_1).f1) ((rd_T85 l0 x5_1).f2)) else (if ((rd_T85 l0 x5_1).f0) = 8 then (spec_l1Thread.j1 k1 l0 x3_1 x4_1 x5_1 true ((rd_T85 l0 x5_1).f0) ((rd_T85 l0 x5_1).f1) ((rd_T85 l0 x5_1).f2)) else (if ((rd_T85 l0 x5_1).f0) = 9 then (spec_l1Thread.j1 k1 l0 x3_1 x4_1 x5_1 x4_1 ((rd_T85 l0 x5_1).f0) ((rd_T85 l0 x5_1).f1) ((rd_T85 l0 x5_1).f2)) else (spec_l1Thread.j1 k1 l0 x3_1 x4_1 x5_1 false ((rd_T85 l0 x5_1).f0) ((rd_T85 l0 x5_1).f1) ((rd_T85 l0 x5_1).f2))))) else (if ((rd_T85 l0 x5_1).f0) = 8 then (if x4_1 = true then (if ((rd_T85 l0 x5_1).f0) = 9 then (spec_l1Thread.j1 k1 l0 x3_1 x4_1 x5_1 x4_1 ((rd_T85 l0 x5_1).f0) ((rd_T85 l0 x5_1).f1) ((rd_T85 l0 x5_1).f2)) else (spec_l1Thread.j1 k1 l0 x3_1 x4_1 x5_1 false ((rd_T85 l0 x5_1).f0) ((rd_T85 l0 x5_1).f1) ((rd_T85 l0 x5_1).f2))) else (spec_l1Thread.j1 k1 l0 x3_1 x4_1 x5_1 true ((rd_T85 l0 x5_1).f0) ((rd_T85 l0 x5_1).f1) ((rd_T85 l0 x5_1).f2))) else (if ((rd_T85 l0 x5_1).f0) = 9 then (spec_l1Thread.j1 k1 l0 x3_1 x4_1 x5_1 x4_1 ((rd_T85 l0 x5_1).f0) ((rd_T85 l0 x5_1).f1) ((rd_T85 l0 x5_1).f2)) else (spec_l1Thread.j1 k1 l0 x3_1 x4_1 x5_1 false ((rd_T85 l0 x5_1).f0) ((rd_T85 l0 x5_1).f1) ((rd_T85 l0 x5_1).f2))))) else (spec_l1Thread.j1 k1 l0 x3_1 x4_1 x5_1 true ((rd_T85 l0 x5_1).f0) ((rd_T85 l0 x5_1).f1) ((rd_T85 l0 x5_1).f2))) else (if ((rd_T85 l0 x5_1).f0) = 7 then (if x4_1 = true then (spec_l1Thread.j1 k1 l0 x3_1 x4_1 x5_1 true ((rd_T85 l0 x5_1).f0) ((rd_T85 l0 x5_1).f1) ((rd_T85 l0 x5_1).f2)) else (if ((rd_T85 l0 x5_1).f0) = 8 then (spec_l1Thread.j1 k1 l0 x3_1 x4_1 x5_1 true ((rd_T85 l0 x5_1).f0) ((rd_T85 l0 x5_1).f1) ((rd_T85 l0 x5_1).f2)) else (if ((rd_T85 l0 x5_1).f0) = 9 then (spec_l1Thread.j1 k1 l0 x3_1 x4_1 x5_1 x4_1 ((rd_T85 l0 x5_1).f0) ((rd_T85 l0 x5_1).f1) ((rd_T85 l0 x5_1).f2)) else (spec_l1Thread.j1 k1 l0 x3_1 x4_1 x5_1 false ((rd_T85 l0 x5_1).f0) ((rd_T85 l0 x5_1).f1) ((rd_T85 l0 x5_1).f2))))) else (if ((rd_T85 l0 x5_1).f0) = 8 then (if x4_1 = true then (if ((rd_T85 l0 x5_1).f0) = 9 then (spec_l1Thread.j1 k1 l0 x3_1 x4_1 x5_1 x4_1 ((rd_T85 l0 x5_1).f0) ((rd_T85 l0 x5_1).f1) ((rd_T85 l0 x5_1).f2)) else (spec_l1Thread.j1 k1 l0 x3_1 x4_1 x5_1 false ((rd_T85 l0 x5_1).f0) ((rd_T85 l0 x5_1).f1) ((rd_T85 l0 x5_1).f2))) else (spec_l1Thread.j1 k1 l0 x3_1 x4_1 x5_1 true ((rd_T85 l0 x5_1).f0) ((rd_T85 l0 x5_1).f1) ((rd_T85 l0 x5_1).f2))) else (if ((rd_T85 l0 x5_1).f0) = 9 then (spec_l1Thread.j1 k1 l0 x3_1 x4_1 x5_1 x4_1 ((rd_T85 l0 x5_1).f0) ((rd_T85 l0 x5_1).f1) ((rd_T85 l0 x5_1).f2)) else (spec_l1Thread.j1 k1 l0 x3_1 x4_1 x5_1 false ((rd_T85 l0 x5_1).f0) ((rd_T85 l0 x5_1).f1) ((rd_T85 l0 x5_1).f2)))))) = some r := by rw [if_pos rfl] at H; exact H
       clear H
       have H := H1
       clear H1
       by_cases c10 : ((rd_T85 l0 x5_1).f0) = 3
       ·rw [if_pos c10] at H
        have c10b0 : (((rd_T85 l0 x5_1).f0) == 3) = true := beq_iff_eq.mpr c10
        have c10b1 : (((rd_T85 l0 x5_1).f0) != 3) = false := bne_eq_false_iff_eq.mpr c10
        clear c10
        (first | rw [c10b0] | (simp only [i64_w, i32_w]; rw [c10b0]) | skip)
        by_cases c11 : x3_1 = true
        ·subst c11
         have H1 : (if ((rd_T85 l0 x5_1).f0) = 7 then (if x4_1 = true then (spec_l1Thread.j1 k1 l0 true x4_1 x5_1 true ((rd_T85 l0 x5_1).f0) ((rd_T85 l0 x5_1).f1) ((rd_T85 l0 x5_1).f2)) else (if ((rd_T85 l0 x5_1).f0) = 8 then (spec_l1Thread.j1 k1 l0 true x4_1 x5_1 true ((rd_T85 l0 x5_1).f0) ((rd_T85 l0 x5_1).f1) ((rd_T85 l0 x5_1).f2)) else (if ((rd_T85 l0 x5_1).f0) = 9 then (spec_l1Thread.j1 k1 l0 true x4_1 x5_1 x4_1 ((rd_T85 l0 x5_1).f0) ((rd_T85 l0 x5_1).f1) ((rd_T85 l0 x5_1).f2)) else (spec_l1Thread.j1 k1 l0 true x4_1 x5_1 false ((rd_T85 l0 x5_1).f0) ((rd_T85 l0 x5_1).f1) ((rd_T85 l0 x5_1).f2))))) else (if ((rd_T85 l0 x5_1).f0) = 8 then (if x4_1 = true then (if ((rd_T85 l0 x5_1).f0) = 9 then (spec_l1Thread.j1 k1 l0 true x4_1 x5_1 x4_1 ((rd_T85 l0 x5_1).f0) ((rd_T85 l0 x5_1).f1) ((rd_T85 l0 x5_1).f2)) else (spec_l1Thread.j1 k1 l0 true x4_1 x5_1 false ((rd_T85 l0 x5_1).f0) ((rd_T85 l0 x5_1).f1) ((rd_T85 l0 x5_1).f2))) else (spec_l1Thread.j1 k1 l0 true x4_1 x5_1 true ((rd_T85 l0 x5_1).f0) ((rd_T85 l0 x5_1).f1) ((rd_T85 l0 x5_1).f2))) else (if ((rd_T85 l0 x5_1).f0) = 9 then (spec_l1Thread.j1 k1 l0 true x4_1 x5_1 x4_1 ((rd_T85 l0 x5_1).f0) ((rd_T85 l0 x5_1).f1) ((rd_T85 l0 x5_1).f2)) else (spec_l1Thread.j1 k1 l0 true x4_1 x5_1 false ((rd_T85 l0 x5_1).f0) ((rd_T85 l0 x5_1).f1) ((rd_T85 l0 x5_1).f2))))) = some r := by rw [if_pos rfl] at H; exact H
         clear H
         have H := H1
         clear H1
         by_cases c12 : ((rd_T85 l0 x5_1).f0) = 7
         ·rw [if_pos c12] at H
          have c12b0 : (((rd_T85 l0 x5_1).f0) == 7) = true := beq_iff_eq.mpr c12
          have c12b1 : (((rd_T85 l0 x5_1).f0) != 7) = false := bne_eq_false_iff_eq.mpr c12
          clear c12
          by_cases c13 : x4_1 = true
          ·subst c13
           have H1 : (spec_l1Thread.j1 k1 l0 true true x5_1 true ((rd_T85 l0 x5_1).f0) ((rd_T85 l0 x5_1).f1) ((rd_T85 l0 x5_1).f2)) = some r := by rw [if_pos rfl] at H; exact H
           clear H
           have H := H1
           clear H1
           have H' := am_ H
           clear H
           go_wp2_with fail
           go_meet
           case rel => exact ⟨_, (true), z93_1, H', ⟨by have := HK1.out; first | omega | exact Nat.le_refl _⟩, ⟨bu BK568.out⟩, ⟨z93_4⟩⟩
          replace c13 := Bool.eq_false_iff.mpr c13
          subst c13
          have H1 : (if ((rd_T85 l0 x5_1).f0) = 8 then (spec_l1Thread.j1 k1 l0 true false x5_1 true ((rd_T85 l0 x5_1).f0) ((rd_T85 l0 x5_1).f1) ((rd_T85 l0 x5_1).f2)) else (if ((rd_T85 l0 x5_1).f0) = 9 then (spec_l1Thread.j1 k1 l0 true false x5_1 false ((rd_T85 l0 x5_1).f0) ((rd_T85 l0 x5_1).f1) ((rd_T85 l0 x5_1).f2)) else (spec_l1Thread.j1 k1 l0 true false x5_1 false ((rd_T85 l0 x5_1).f0) ((rd_T85 l0 x5_1).f1) ((rd_T85 l0 x5_1).f2)))) = some r := by rw [if_neg (show ¬ (false = true) by decide)] at H; exact H
          clear H
          have H := H1
          clear H1
          by_cases c17 : ((rd_T85 l0 x5_1).f0) = 8
          ·rw [if_pos c17] at H
           have c17b0 : (((rd_T85 l0 x5_1).f0) == 8) = true := beq_iff_eq.mpr c17
           have c17b1 : (((rd_T85 l0 x5_1).f0) != 8) = false := bne_eq_false_iff_eq.mpr c17
           clear c17
           have H' := am_ H
           clear H
           go_wp2_with fail
           go_meet
           case rel => exact ⟨_, (true), z93_1, H', ⟨by have := HK1.out; first | omega | exact Nat.le_refl _⟩, ⟨bu BK568.out⟩, ⟨z93_4⟩⟩
          rw [if_neg c17] at H
          have c17b0 : (((rd_T85 l0 x5_1).f0) == 8) = false := beq_eq_false_iff_ne.mpr c17
          have c17b1 : (((rd_T85 l0 x5_1).f0) != 8) = true := bne_iff_ne.mpr c17
          by_cases c21 : ((rd_T85 l0 x5_1).f0) = 9
          ·rw [if_pos c21] at H
           have c21b0 : (((rd_T85 l0 x5_1).f0) == 9) = true := beq_iff_eq.mpr c21
           have c21b1 : (((rd_T85 l0 x5_1).f0) != 9) = false := bne_eq_false_iff_eq.mpr c21
           clear c21
           have H' := am_ H
           clear H
           go_wp2_with fail
           go_meet
           case rel => exact ⟨_, (false), z93_1, H', ⟨by have := HK1.out; first | omega | exact Nat.le_refl _⟩, ⟨bu BK568.out⟩, ⟨z93_4⟩⟩
          rw [if_neg c21] at H
          have c21b0 : (((rd_T85 l0 x5_1).f0) == 9) = false := beq_eq_false_iff_ne.mpr c21
          have c21b1 : (((rd_T85 l0 x5_1).f0) != 9) = true := bne_iff_ne.mpr c21
          have H' := am_ H
          clear H
          go_wp2_with fail
          go_meet
          case rel => exact ⟨_, (false), z93_1, H', ⟨by have := HK1.out; first | omega | exact Nat.le_refl _⟩, ⟨bu BK568.out⟩, ⟨z93_4⟩⟩
         rw [if_neg c12] at H
         have c12b0 : (((rd_T85 l0 x5_1).f0) == 7) = false := beq_eq_false_iff_ne.mpr c12
         have c12b1 : (((rd_T85 l0 x5_1).f0) != 7) = true := bne_iff_ne.mpr c12
         by_cases c28 : ((rd_T85 l0 x5_1).f0) = 8
         ·rw [if_pos c28] at H
          have c28b0 : (((rd_T85 l0 x5_1).f0) == 8) = true := beq_iff_eq.mpr c28
          have c28b1 : (((rd_T85 l0 x5_1).f0) != 8) = false := bne_eq_false_iff_eq.mpr c28
          clear c28
          by_cases c29 : x4_1 = true
          ·subst c29
           have H1 : (if ((rd_T85 l0 x5_1).f0) = 9 then (spec_l1Thread.j1 k1 l0 true true x5_1 true ((rd_T85 l0 x5_1).f0) ((rd_T85 l0 x5_1).f1) ((rd_T85 l0 x5_1).f2)) else (spec_l1Thread.j1 k1 l0 true true x5_1 false ((rd_T85 l0 x5_1).f0) ((rd_T85 l0 x5_1).f1) ((rd_T85 l0 x5_1).f2))) = some r := by rw [if_pos rfl] at H; exact H
           clear H
           have H := H1
           clear H1
           by_cases c30 : ((rd_T85 l0 x5_1).f0) = 9
           ·rw [if_pos c30] at H
            have c30b0 : (((rd_T85 l0 x5_1).f0) == 9) = true := beq_iff_eq.mpr c30
            have c30b1 : (((rd_T85 l0 x5_1).f0) != 9) = false := bne_eq_false_iff_eq.mpr c30
            clear c30
            have H' := am_ H
            clear H
            go_wp2_with fail
            go_meet
            case rel => exact ⟨_, (true), z93_1, H', ⟨by have := HK1.out; first | omega | exact Nat.le_refl _⟩, ⟨bu BK568.out⟩, ⟨z93_4⟩⟩
           rw [if_neg c30] at H
           have c30b0 : (((rd_T85 l0 x5_1).f0) == 9) = false := beq_eq_false_iff_ne.mpr c30
           have c30b1 : (((rd_T85 l0 x5_1).f0) != 9) = true := bne_iff_ne.mpr c30
           have H' := am_ H
           clear H
           go_wp2_with fail
           go_meet
           case rel => exact ⟨_, (false), z93_1, H', ⟨by have := HK1.out; first | omega | exact Nat.le_refl _⟩, ⟨bu BK568.out⟩, ⟨z93_4⟩⟩
          replace c29 := Bool.eq_false_iff.mpr c29
          subst c29
          have H1 : (spec_l1Thread.j1 k1 l0 true false x5_1 true ((rd_T85 l0 x5_1).f0) ((rd_T85 l0 x5_1).f1) ((rd_T85 l0 x5_1).f2)) = some r := by rw [if_neg (show ¬ (false = true) by decide)] at H; exact H
          clear H
          have H := H1
          clear H1
          have H' := am_ H
          clear H
          go_wp2_with fail
          go_meet
          case rel => exact ⟨_, (true), z93_1, H', ⟨by have := HK1.out; first | omega | exact Nat.le_refl _⟩, ⟨bu BK568.out⟩, ⟨z93_4⟩⟩
         rw [if_neg c28] at H
         have c28b0 : (((rd_T85 l0 x5_1).f0) == 8) = false := beq_eq_false_iff_ne.mpr c28
         have c28b1 : (((rd_T85 l0 x5_1).f0) != 8) = true := bne_iff_ne.mpr c28
         by_cases c40 : ((rd_T85 l0 x5_1).f0) = 9
         ·rw [if_pos c40] at H
          have c40b0 : (((rd_T85 l0 x5_1).f0) == 9) = true := beq_iff_eq.mpr c40
          have c40b1 : (((rd_T85 l0 x5_1).f0) != 9) = false := bne_eq_false_iff_eq.mpr c40
          clear c40
          have H' := am_ H
          clear H
          go_wp2_with fail
          go_meet
          case rel => exact ⟨_, (x4_1), z93_1, H', ⟨by have := HK1.out; first | omega | exact Nat.le_refl _⟩, ⟨bu BK568.out⟩, ⟨z93_4⟩⟩
         rw [if_neg c40] at H
         have c40b0 : (((rd_T85 l0 x5_1).f0) == 9) = false := beq_eq_false_iff_ne.mpr c40
         have c40b1 : (((rd_T85 l0 x5_1).f0) != 9) = true := bne_iff_ne.mpr c40
         have H' := am_ H
         clear H
         go_wp2_with fail
         go_meet
         case rel => exact ⟨_, (false), z93_1, H', ⟨by have := HK1.out; first | omega | exact Nat.le_refl _⟩, ⟨bu BK568.out⟩, ⟨z93_4⟩⟩
        replace c11 := Bool.eq_false_iff.mpr c11
        subst c11
        have H1 : (spec_l1Thread.j1 k1 l0 false x4_1 x5_1 true ((rd_T85 l0 x5_1).f0) ((rd_T85 l0 x5_1).f1) ((rd_T85 l0 x5_1).f2)) = some r := by rw [if_neg (show ¬ (false = true) by decide)] at H; exact H
        clear H
        have H := H1
        clear H1
        have H' := am_ H
        clear H
        go_wp2_with fail
        go_meet
        case rel => exact ⟨_, (true), z93_1, H', ⟨by have := HK1.out; first | omega | exact Nat.le_refl _⟩, ⟨bu BK568.out⟩, ⟨z93_4⟩⟩
       rw [if_neg c10] at H
       have c10b0 : (((rd_T85 l0 x5_1).f0) == 3) = false := beq_eq_false_iff_ne.mpr c10
       have c10b1 : (((rd_T85 l0 x5_1).f0) != 3) = true := bne_iff_ne.mpr c10
       (first | rw [c10b0] | (simp only [i64_w, i32_w]; rw [c10b0]) | skip)
       by_cases c50 : ((rd_T85 l0 x5_1).f0) = 7
       ·rw [if_pos c50] at H
        have c50b0 : (((rd_T85 l0 x5_1).f0) == 7) = true := beq_iff_eq.mpr c50
        have c50b1 : (((rd_T85 l0 x5_1).f0) != 7) = false := bne_eq_false_iff_eq.mpr c50
        clear c50
        by_cases c51 : x4_1 = true
        ·subst c51
         have H1 : (spec_l1Thread.j1 k1 l0 x3_1 true x5_1 true ((rd_T85 l0 x5_1).f0) ((rd_T85 l0 x5_1).f1) ((rd_T85 l0 x5_1).f2)) = some r := by rw [if_pos rfl] at H; exact H
         clear H
         have H := H1
         clear H1
         have H' := am_ H
         clear H
         go_wp2_with fail
         go_meet
         case rel => exact ⟨_, (true), z93_1, H', ⟨by have := HK1.out; first | omega | exact Nat.le_refl _⟩, ⟨bu BK568.out⟩, ⟨z93_4⟩⟩
        replace c51 := Bool.eq_false_iff.mpr c51
        subst c51
        have H1 : (if ((rd_T85 l0 x5_1).f0) = 8 then (spec_l1Thread.j1 k1 l0 x3_1 false x5_1 true ((rd_T85 l0 x5_1).f0) ((rd_T85 l0 x5_1).f1) ((rd_T85 l0 x5_1).f2)) else (if ((rd_T85 l0 x5_1).f0) = 9 then (spec_l1Thread.j1 k1 l0 x3_1 false x5_1 false ((rd_T85 l0 x5_1).f0) ((rd_T85 l0 x5_1).f1) ((rd_T85 l0 x5_1).f2)) else (spec_l1Thread.j1 k1 l0 x3_1 false x5_1 false ((rd_T85 l0 x5_1).f0) ((rd_T85 l0 x5_1).f1) ((rd_T85 l0 x5_1).f2)))) = some r := by rw [if_neg (show ¬ (false = true) by decide)] at H; exact H
        clear H
        have H := H1
        clear H1
        by_cases c55 : ((rd_T85 l0 x5_1).f0) = 8
        ·rw [if_pos c55] at H
         have c55b0 : (((rd_T85 l0 x5_1).f0) == 8) = true := beq_iff_eq.mpr c55
         have c55b1 : (((rd_T85 l0 x5_1).f0) != 8) = false := bne_eq_false_iff_eq.mpr c55
         clear c55
         have H' := am_ H
         clear H
         go_wp2_with fail
         go_meet
         case rel => exact ⟨_, (true), z93_1, H', ⟨by have := HK1.out; first | omega | exact Nat.le_refl _⟩, ⟨bu BK568.out⟩, ⟨z93_4⟩⟩
        rw [if_neg c55] at H
        have c55b0 : (((rd_T85 l0 x5_1).f0) == 8) = false := beq_eq_false_iff_ne.mpr c55
        have c55b1 : (((rd_T85 l0 x5_1).f0) != 8) = true := bne_iff_ne.mpr c55
        by_cases c59 : ((rd_T85 l0 x5_1).f0) = 9
        ·rw [if_pos c59] at H
         have c59b0 : (((rd_T85 l0 x5_1).f0) == 9) = true := beq_iff_eq.mpr c59
         have c59b1 : (((rd_T85 l0 x5_1).f0) != 9) = false := bne_eq_false_iff_eq.mpr c59
         clear c59
         have H' := am_ H
         clear H
         go_wp2_with fail
         go_meet
         case rel => exact ⟨_, (false), z93_1, H', ⟨by have := HK1.out; first | omega | exact Nat.le_refl _⟩, ⟨bu BK568.out⟩, ⟨z93_4⟩⟩
        rw [if_neg c59] at H
        have c59b0 : (((rd_T85 l0 x5_1).f0) == 9) = false := beq_eq_false_iff_ne.mpr c59
        have c59b1 : (((rd_T85 l0 x5_1).f0) != 9) = true := bne_iff_ne.mpr c59
        have H' := am_ H
        clear H
        go_wp2_with fail
        go_meet
        case rel => exact ⟨_, (false), z93_1, H', ⟨by have := HK1.out; first | omega | exact Nat.le_refl _⟩, ⟨bu BK568.out⟩, ⟨z93_4⟩⟩
       rw [if_neg c50] at H
       have c50b0 : (((rd_T85 l0 x5_1).f0) == 7) = false := beq_eq_false_iff_ne.mpr c50
       have c50b1 : (((rd_T85 l0 x5_1).f0) != 7) = true := bne_iff_ne.mpr c50
       by_cases c66 : ((rd_T85 l0 x5_1).f0) = 8
       ·rw [if_pos c66] at H
        have c66b0 : (((rd_T85 l0 x5_1).f0) == 8) = true := beq_iff_eq.mpr c66
        have c66b1 : (((rd_T85 l0 x5_1).f0) != 8) = false := bne_eq_false_iff_eq.mpr c66
        clear c66
        by_cases c67 : x4_1 = true
        ·subst c67
         have H1 : (if ((rd_T85 l0 x5_1).f0) = 9 then (spec_l1Thread.j1 k1 l0 x3_1 true x5_1 true ((rd_T85 l0 x5_1).f0) ((rd_T85 l0 x5_1).f1) ((rd_T85 l0 x5_1).f2)) else (spec_l1Thread.j1 k1 l0 x3_1 true x5_1 false ((rd_T85 l0 x5_1).f0) ((rd_T85 l0 x5_1).f1) ((rd_T85 l0 x5_1).f2))) = some r := by rw [if_pos rfl] at H; exact H
         clear H
         have H := H1
         clear H1
         by_cases c68 : ((rd_T85 l0 x5_1).f0) = 9
         ·rw [if_pos c68] at H
          have c68b0 : (((rd_T85 l0 x5_1).f0) == 9) = true := beq_iff_eq.mpr c68
          have c68b1 : (((rd_T85 l0 x5_1).f0) != 9) = false := bne_eq_false_iff_eq.mpr c68
          clear c68
          have H' := am_ H
          clear H
          go_wp2_with fail
          go_meet
          case rel => exact ⟨_, (true), z93_1, H', ⟨by have := HK1.out; first | omega | exact Nat.le_refl _⟩, ⟨bu BK568.out⟩, ⟨z93_4⟩⟩
         rw [if_neg c68] at H
         have c68b0 : (((rd_T85 l0 x5_1).f0) == 9) = false := beq_eq_false_iff_ne.mpr c68
         have c68b1 : (((rd_T85 l0 x5_1).f0) != 9) = true := bne_iff_ne.mpr c68
         have H' := am_ H
         clear H
         go_wp2_with fail
         go_meet
         case rel => exact ⟨_, (false), z93_1, H', ⟨by have := HK1.out; first | omega | exact Nat.le_refl _⟩, ⟨bu BK568.out⟩, ⟨z93_4⟩⟩
        replace c67 := Bool.eq_false_iff.mpr c67
        subst c67
        have H1 : (spec_l1Thread.j1 k1 l0 x3_1 false x5_1 true ((rd_T85 l0 x5_1).f0) ((rd_T85 l0 x5_1).f1) ((rd_T85 l0 x5_1).f2)) = some r := by rw [if_neg (show ¬ (false = true) by decide)] at H; exact H
        clear H
        have H := H1
        clear H1
        have H' := am_ H
        clear H
        go_wp2_with fail
        go_meet
        case rel => exact ⟨_, (true), z93_1, H', ⟨by have := HK1.out; first | omega | exact Nat.le_refl _⟩, ⟨bu BK568.out⟩, ⟨z93_4⟩⟩
       rw [if_neg c66] at H
       have c66b0 : (((rd_T85 l0 x5_1).f0) == 8) = false := beq_eq_false_iff_ne.mpr c66
       have c66b1 : (((rd_T85 l0 x5_1).f0) != 8) = true := bne_iff_ne.mpr c66
       by_cases c78 : ((rd_T85 l0 x5_1).f0) = 9
       ·rw [if_pos c78] at H
        have c78b0 : (((rd_T85 l0 x5_1).f0) == 9) = true := beq_iff_eq.mpr c78
        have c78b1 : (((rd_T85 l0 x5_1).f0) != 9) = false := bne_eq_false_iff_eq.mpr c78
        clear c78
        have H' := am_ H
        clear H
        go_wp2_with fail
        go_meet
        case rel => exact ⟨_, (x4_1), z93_1, H', ⟨by have := HK1.out; first | omega | exact Nat.le_refl _⟩, ⟨bu BK568.out⟩, ⟨z93_4⟩⟩
       rw [if_neg c78] at H
       have c78b0 : (((rd_T85 l0 x5_1).f0) == 9) = false := beq_eq_false_iff_ne.mpr c78
       have c78b1 : (((rd_T85 l0 x5_1).f0) != 9) = true := bne_iff_ne.mpr c78
       have H' := am_ H
       clear H
       go_wp2_with fail
       go_meet
       case rel => exact ⟨_, (false), z93_1, H', ⟨by have := HK1.out; first | omega | exact Nat.le_refl _⟩, ⟨bu BK568.out⟩, ⟨z93_4⟩⟩
      replace c9 := Bool.eq_false_iff.mpr c9
      subst c9
      have H1 : (spec_l1Thread.j1 k1 l0 x3_1 x4_1 x5_1 true ((rd_T85 l0 x5_1).f0) ((rd_T85 l0 x5_1).f1) ((rd_T85 l0 x5_1).f2)) = some r := by rw [if_neg (show ¬ (false = true) by decide)] at H; exact H
      clear H
      have H := H1
      clear H1
      have H' := am_ H
      clear H
      go_wp2_with fail
      go_meet
      case rel => exact ⟨_, (true), z93_1, H', ⟨by have := HK1.out; first | omega | exact Nat.le_refl _⟩, ⟨bu BK568.out⟩, ⟨z93_4⟩⟩
     case rest =>
      clear HC5
      obtain ⟨kq, x56_4, rfl, HA, HJ4, BK568, HB⟩ := hcut
      cases kq with
      | zero => exact absurd HA.out (by simp [spec_l1Thread.j1])
      | succ kj4 =>
       have H := HA.out
       clear HA
       simp only [spec_l1Thread.j1] at H
       by_cases c87 : x56_4 = true
       ·subst c87
        have H1 : (some false) = some r := by rw [if_pos rfl] at H; exact H
        clear H
        have H := H1
        clear H1
        obtain rfl := Option.some.inj H
        go_wp2
        go_ret
        exact ⟨z93_2, z93_4⟩
       replace c87 := Bool.eq_false_iff.mpr c87
       subst c87
       have H1 : (if x3_1 = true then (spec_l1Thread.j2 kj4 l0 true x4_1 x5_1 ((rd_T85 l0 x5_1).f0) ((rd_T85 l0 x5_1).f1) ((rd_T85 l0 x5_1).f2)) else ((spec_l1Reads.f ((rd_T85 l0 x5_1).f0) ((rd_T85 l0 x5_1).f1) ((rd_T85 l0 x5_1).f2)).bind fun t570 => (spec_l1Thread.j2 kj4 l0 t570 x4_1 x5_1 ((rd_T85 l0 x5_1).f0) ((rd_T85 l0 x5_1).f1) ((rd_T85 l0 x5_1).f2)))) = some r := by rw [if_neg (show ¬ (false = true) by decide)] at H; exact H
       clear H
       have H := H1
       clear H1
       have HC88 := am_ H
       clear H
       go_upto_region 11 with (fail)
       go_cut [3] (fun v3 wc => ∃ (kq : Nat) (x3_87 : Bool), v3 = .bool x3_87 ∧ Aside0 (spec_l1Thread.j2 kq l0 x3_87 x4_1 x5_1 ((rd_T85 l0 x5_1).f0) ((rd_T85 l0 x5_1).f1) ((rd_T85 l0 x5_1).f2) = some r) ∧ Aside0 (kq ≤ kj4) ∧ Aside0 (wc.heap[gb568]? = some (.cells #[.int .i64 ((rd_T85 l0 x5_1).f0), .int .i64 ((rd_T85 l0 x5_1).f1), .int .i64 ((rd_T85 l0 x5_1).f2)] 85 (0, 0))) ∧ Aside0 (Below w.heap.size w wc))
       case first =>
        have H := HC88.out
        clear HC88
        by_cases c89 : x3_1 = true
        ·subst c89
         have H1 : (spec_l1Thread.j2 kj4 l0 true x4_1 x5_1 ((rd_T85 l0 x5_1).f0) ((rd_T85 l0 x5_1).f1) ((rd_T85 l0 x5_1).f2)) = some r := by rw [if_pos rfl] at H; exact H
         clear H
         have H := H1
         clear H1
         have H' := am_ H
         clear H
         go_wp2
         go_meet
         case rel => exact ⟨_, (true), z93_1, H', ⟨by have := HK1.out; have := HJ4.out; first | omega | exact Nat.le_refl _⟩, ⟨bu BK568.out⟩, ⟨z93_4⟩⟩
        replace c89 := Bool.eq_false_iff.mpr c89
        subst c89
        have H1 : ((spec_l1Reads.f ((rd_T85 l0 x5_1).f0) ((rd_T85 l0 x5_1).f1) ((rd_T85 l0 x5_1).f2)).bind fun t570 => (spec_l1Thread.j2 kj4 l0 t570 x4_1 x5_1 ((rd_T85 l0 x5_1).f0) ((rd_T85 l0 x5_1).f1) ((rd_T85 l0 x5_1).f2))) = some r := by rw [if_neg (show ¬ (false = true) by decide)] at H; exact H
        clear H
        have H := H1
        clear H1
        replace H := Option.bind_eq_some_iff.mp H
        obtain ⟨t570, A900, H⟩ := H
        replace H : (spec_l1Thread.j2 kj4 l0 t570 x4_1 x5_1 ((rd_T85 l0 x5_1).f0) ((rd_T85 l0 x5_1).f1) ((rd_T85 l0 x5_1).f2)) = some r := H
        have A90 := am_ A900
        clear A900
        have H' := am_ H
        clear H
        have hcz91_0 := cf0 BK568.out
        have hcz91_1 := cf1 BK568.out
        have hcz91_2 := cf2 BK568.out
        have hfz91_0 := blk_frozen BK568.out 0
        have hfz91_1 := blk_frozen BK568.out 1
        have hfz91_2 := blk_frozen BK568.out 2
        go_wp2_with (first | (go_at_call 87; (with_reducible refine (spec_l1Reads.calls ((rd_T85 l0 x5_1).f0) ((rd_T85 l0 x5_1).f1) ((rd_T85 l0 x5_1).f2) t570 _ A90.out).mono ?_); rintro e w92 ⟨rfl, hb⟩; replace BK568 := am_ (blk_below (bu BK568.out) hb); replace HB := am_ (below_step z93_4 hb); (try clear hb); (try clear hb2); (try clear hk); (try clear hi)))
        go_meet
        case rel => exact ⟨_, (t570), z93_1, H', ⟨by have := HK1.out; have := HJ4.out; first | omega | exact Nat.le_refl _⟩, ⟨bu BK568.out⟩, ⟨z93_4⟩⟩
       case rest =>
        clear HC88
        obtain ⟨kq, x3_87, rfl, HA, HJ87, BK568, HB⟩ := hcut
        cases kq with
        | zero => exact absurd HA.out (by simp [spec_l1Thread.j2])
        | succ kj87 =>
         have H := HA.out
         clear HA
         simp only [spec_l1Thread.j2] at H
         by_cases c93 : ((rd_T85 l0 x5_1).f0) = 7
         ·rw [if_pos c93] at H
          have c93b0 : (((rd_T85 l0 x5_1).f0) == 7) = true := beq_iff_eq.mpr c93
          have c93b1 : (((rd_T85 l0 x5_1).f0) != 7) = false := bne_eq_false_iff_eq.mpr c93
          clear c93
          have H' := am_ H
          clear H
          have hcz94_0 := cf0 BK568.out
          have hcz94_1 := cf1 BK568.out
          have hcz94_2 := cf2 BK568.out
          have hfz94_0 := blk_frozen BK568.out 0
          have hfz94_1 := blk_frozen BK568.out 1
          have hfz94_2 := blk_frozen BK568.out 2
          go_wp2
          go_roundg kj87
          case measure => have := HK1.out; have := HJ4.out; have := HJ87.out; omega
          case rel => exact ⟨(x3_87), (true), (wrap64 (x5_1 + 1)), z93_1, z93_1, z93_1, H', ⟨by have := HK1.out; have := HJ4.out; have := HJ87.out; omega⟩, ⟨z93_4⟩⟩
         rw [if_neg c93] at H
         have c93b0 : (((rd_T85 l0 x5_1).f0) == 7) = false := beq_eq_false_iff_ne.mpr c93
         have c93b1 : (((rd_T85 l0 x5_1).f0) != 7) = true := bne_iff_ne.mpr c93
         by_cases c95 : ((rd_T85 l0 x5_1).f0) = 8
         ·rw [if_pos c95] at H
          have c95b0 : (((rd_T85 l0 x5_1).f0) == 8) = true := beq_iff_eq.mpr c95
          have c95b1 : (((rd_T85 l0 x5_1).f0) != 8) = false := bne_eq_false_iff_eq.mpr c95
          clear c95
          have H' := am_ H
          clear H
          have hcz96_0 := cf0 BK568.out
          have hcz96_1 := cf1 BK568.out
          have hcz96_2 := cf2 BK568.out
          have hfz96_0 := blk_frozen BK568.out 0
          have hfz96_1 := blk_frozen BK568.out 1
          have hfz96_2 := blk_frozen BK568.out 2
          go_wp2
          go_roundg kj87
          case measure => have := HK1.out; have := HJ4.out; have := HJ87.out; omega
          case rel => exact ⟨(x3_87), (false), (wrap64 (x5_1 + 1)), z93_1, z93_1, z93_1, H', ⟨by have := HK1.out; have := HJ4.out; have := HJ87.out; omega⟩, ⟨z93_4⟩⟩
         rw [if_neg c95] at H
         have c95b0 : (((rd_T85 l0 x5_1).f0) == 8) = false := beq_eq_false_iff_ne.mpr c95
         have c95b1 : (((rd_T85 l0 x5_1).f0) != 8) = true := bne_iff_ne.mpr c95
         have H' := am_ H
         clear H
         have hcz97_0 := cf0 BK568.out
         have hcz97_1 := cf1 BK568.out
         have hcz97_2 := cf2 BK568.out
         have hfz97_0 := blk_frozen BK568.out 0
         have hfz97_1 := blk_frozen BK568.out 1
         have hfz97_2 := blk_frozen BK568.out 2
         go_wp2
         go_roundg kj87
         case measure => have := HK1.out; have := HJ4.out; have := HJ87.out; omega
         case rel => exact ⟨(x3_87), (x4_1), (wrap64 (x5_1 + 1)), z93_1, z93_1, z93_1, H', ⟨by have := HK1.out; have := HJ4.out; have := HJ87.out; omega⟩, ⟨z93_4⟩⟩
    rw [if_neg c4] at H
    exact absurd H (by simp)
   rw [if_neg c3] at H
   have c3b0 : decide (x5_1 < (l0.length : Int)) = false := decide_eq_false c3
   clear c3
   obtain rfl := Option.some.inj H
   go_wp2
   go_ret
   exact ⟨z93_2, z93_3⟩

end Go.Proofs.Ytefkbmhkhpekjaa.PB

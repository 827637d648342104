-- Written by this session's wip/myprint.py (the kit's print.py, with hand-written chunks). Lean checks it.
import Derived.Test.YtefkbmhkhpekjaaPBx0
import Derived.Test.YtefkbmhkhpekjaaPBx77
import Derived.Test.YtefkbmhkhpekjaaPBx78
namespace Go.Proofs.Ytefkbmhkhpekjaa.PB
open Go.RowKit Go.Proofs.YtefkbmhkhpekjaaW.PrintWords Go.Proofs.YtefkbmhkhpekjaaW.PrintLast Go.Proofs.YtefkbmhkhpekjaaW.PrintMore
attribute [local go_sem] max2_int min2_int max_two min_two max_three min_three max_four min_four   -- for this text's walks alone
open Go.Proofs.YtefkbmhkhpekjaaMine
set_option linter.unusedVariables false
set_option linter.unusedSimpArgs false

theorem z31_1 {p : Prop} (h : p := by first | rfl | (simp; done) | (simp [*]; done)) : p := h
theorem z31_2 {p : Prop} (h : p := by first | (with_reducible assumption) | assumption) : p := h
theorem z31_3 {p : Prop} (h : p := by first | rfl | (simp [errW_none, errW_some] <;> rfl) | (simp [*, errW_none, errW_some] <;> rfl)) : p := h
theorem z31_4 {p : Prop} (h : p := by repeat (first | (with_reducible first | exact HB.out | apply below_alloc | apply pw_below_drewN | apply below_drew1) | exact HB.out)) : p := h
theorem z31_5 {p : Prop} (h : p := by repeat (first | (with_reducible first | exact HB.out | apply below_alloc | apply pw_below_drewN | apply below_drew1 | refine below_set ?_ GE371.out) | exact HB.out)) : p := h
theorem z31_6 {p : Prop} (h : p := by repeat (first | (with_reducible first | exact HB.out | apply below_alloc | apply pw_below_drewN | apply below_drew1 | refine below_set ?_ GE371.out | refine below_set ?_ GE375.out) | exact HB.out)) : p := h
theorem z31_7 {p : Prop} (h : p := by (with_reducible repeat (first | refine blk_drewN ?_ _ | refine blk_drew ?_ | refine blk_alloc ?_ _)); refine blk_far ?_ NB371_375.out _; (with_reducible repeat (first | refine blk_drewN ?_ _ | refine blk_drew ?_ | refine blk_alloc ?_ _)); refine blk_far ?_ NB371_375.out _; (with_reducible repeat (first | refine blk_drewN ?_ _ | refine blk_drew ?_ | refine blk_alloc ?_ _)); refine blk_far ?_ NB371_375.out _; (with_reducible repeat (first | refine blk_drewN ?_ _ | refine blk_drew ?_ | refine blk_alloc ?_ _)); exact BK371.out) : p := h
theorem z31_8 {p : Prop} (h : p := by (with_reducible repeat (first | refine blk_drewN ?_ _ | refine blk_drew ?_ | refine blk_alloc ?_ _)); refine blk_put (cs := #[.int .i64 ((rd_T85 (rd_L7 l0_0 x16_1) x29_2).f0), .int .i64 ((rd_T85 (rd_L7 l0_0 x16_1) x29_2).f1), .int .i64 0]) ?_ 2 _ rfl; (with_reducible repeat (first | refine blk_drewN ?_ _ | refine blk_drew ?_ | refine blk_alloc ?_ _)); refine blk_put (cs := #[.int .i64 ((rd_T85 (rd_L7 l0_0 x16_1) x29_2).f0), .int .i64 0, .int .i64 0]) ?_ 1 _ rfl; (with_reducible repeat (first | refine blk_drewN ?_ _ | refine blk_drew ?_ | refine blk_alloc ?_ _)); refine blk_put (cs := #[.int .i64 0, .int .i64 0, .int .i64 0]) ?_ 0 _ rfl; (with_reducible repeat (first | refine blk_drewN ?_ _ | refine blk_drew ?_ | refine blk_alloc ?_ _)); exact BK375.out) : p := h
/-! ### impl_ProgOk: function 31 -/
mutual
def impl_ProgOk.l0 : Nat → Int → Int → List (List (S85)) → Int → Int → Option (Bool)
  | 0, _, _, _, _, _ => none
  | k + 1, x3, x4, x14, x15, x16 => if x16 < x15 then (if 0 ≤ x16 then (if x16 < (x14.length : Int) then ((impl_threadOk.f k (rd_L7 x14 x16)).bind fun t373 => (if t373 = true then (impl_ProgOk.l1 k (wrap64 (x3 + ((rd_L7 x14 x16).length : Int))) x4 x14 x15 x16 (rd_L7 x14 x16) ((rd_L7 x14 x16).length : Int) 0) else (some false))) else (none)) else (none)) else (if x3 ≤ 14 then (some (decide (x4 ≤ 6))) else (some false))
def impl_ProgOk.l1 : Nat → Int → Int → List (List (S85)) → Int → Int → List (S85) → Int → Int → Option (Bool)
  | 0, _, _, _, _, _, _, _, _ => none
  | k + 1, x3, x4, x14, x15, x16, x27, x28, x29 => if x29 < x28 then (if 0 ≤ x29 then (if x29 < (x27.length : Int) then ((impl_Do_uses.f ((rd_T85 x27 x29).f0) ((rd_T85 x27 x29).f1) ((rd_T85 x27 x29).f2)).bind fun t376 => (if t376 = true then (impl_ProgOk.l1 k x3 (wrap64 (x4 + 1)) x14 x15 x16 x27 x28 (wrap64 (x29 + 1))) else (impl_ProgOk.l1 k x3 x4 x14 x15 x16 x27 x28 (wrap64 (x29 + 1))))) else (none)) else (none)) else (impl_ProgOk.l0 k x3 x4 x14 x15 (wrap64 (x16 + 1)))
end
def impl_ProgOk.f (k : Nat) (l0_0 : List (List (S85))) : Option (Bool) := if (l0_0.length : Int) > 3 then (some false) else (impl_ProgOk.l0 k 0 0 l0_0 (l0_0.length : Int) 0)
set_option maxHeartbeats 8000000 in
set_option maxRecDepth 100000 in
theorem impl_ProgOk.calls (k : Nat) (A0_0 : Option Addr) (c0_0 : Nat) (l0_0 : List (List (S85))) (r : Bool) (w : World) (hr0_0 : Kd.C (Kd.slice 85 k85) w A0_0 l0_0.length l0_0) (hc0_0 : l0_0.length ≤ c0_0) (h : impl_ProgOk.f k l0_0 = some r) :
  Calls Try.prog 31 #[.agg #[.slice A0_0 l0_0.length c0_0]] w fun e w' => e = .returned (.bool r) ∧ Below w.heap.size w w' := by
 have hu35 := Try.underlying35
 have hu85 := Try.underlying85
 have HR0_0 := am_ hr0_0
 have HC0_0 := am_ hc0_0
 clear hr0_0 hc0_0
 have HB := am_ (Below.refl w.heap.size w)
 have H : (if (l0_0.length : Int) > 3 then (some false) else (impl_ProgOk.l0 k 0 0 l0_0 (l0_0.length : Int) 0)) = some r := h
 clear h
 by_cases c2 : (l0_0.length : Int) > 3
 ·rw [if_pos c2] at H
  have c2b0 : decide (3 < (l0_0.length : Int)) = true := decide_eq_true c2
  have c2b1 : decide (3 < l0_0.length) = true := decide_eq_true (by omega)
  clear c2
  obtain rfl := Option.some.inj H
  go_enter Try.func31, Try.ntmps31
  go_wp2_with (first | ((with_reducible refine gate_dst (N := 1) rfl ?_); refine box_event ?hg (N := 1) ?hd (cs := #[.slice A0_0 l0_0.length c0_0]) (t := 35) ?hr ?_; (case hd => rfl); (case hg => rfl); (case hr => first | (go_simp; done) | (go_simp; rfl)); intro gb371 hg w3 hbox hb; have n0_ := am_ (below_step z31_4 hb); have n1_ := am_ (hbox); have n2_ := am_ (by rw [hg]; exact (below_size z31_4) : w.heap.size ≤ gb371); have n3_ := am_ (by rw [hg]; exact (below_size z31_4) : w.heap.size ≤ gb371); clear HB; have HB := n0_; have BK371 := n1_; have GW371 := n2_; have GE371 := n3_; clear n0_ n1_ n2_ n3_; clear hb hbox hg; have hcz4_0 := cf0 BK371.out; have hfz4_0 := blk_frozen BK371.out 0))
  go_ret
  exact ⟨z31_3, z31_5⟩
 rw [if_neg c2] at H
 have c2b0 : decide (3 < (l0_0.length : Int)) = false := decide_eq_false c2
 have c2b1 : decide (3 < l0_0.length) = false := decide_eq_false (by omega)
 clear c2
 have H' := am_ H
 clear H
 go_enter Try.func31, Try.ntmps31
 go_wp2_with (first | ((with_reducible refine gate_dst (N := 1) rfl ?_); refine box_event ?hg (N := 1) ?hd (cs := #[.slice A0_0 l0_0.length c0_0]) (t := 35) ?hr ?_; (case hd => rfl); (case hg => rfl); (case hr => first | (go_simp; done) | (go_simp; rfl)); intro gb371 hg w5 hbox hb; have n0_ := am_ (below_step z31_4 hb); have n1_ := am_ (hbox); have n2_ := am_ (by rw [hg]; exact (below_size z31_4) : w.heap.size ≤ gb371); have n3_ := am_ (by rw [hg]; exact (below_size z31_4) : w.heap.size ≤ gb371); clear HB; have HB := n0_; have BK371 := n1_; have GW371 := n2_; have GE371 := n3_; clear n0_ n1_ n2_ n3_; clear hb hbox hg; have hcz6_0 := cf0 BK371.out; have hfz6_0 := blk_frozen BK371.out 0))
 go_loopg [3, 4, 16] k (fun kq v3 v4 v16 w' => ∃ (x3_1 : Int) (x4_1 : Int) (x16_1 : Int), v3 = .int .i64 x3_1 ∧ v4 = .int .i64 x4_1 ∧ v16 = .int .i64 x16_1 ∧ Aside0 (impl_ProgOk.l0 kq x3_1 x4_1 l0_0 (l0_0.length : Int) x16_1 = some r) ∧ Aside0 (kq ≤ k) ∧ Aside0 (w'.heap[gb371]? = some (.cells #[(.slice A0_0 l0_0.length c0_0)] 35 (0, 0))) ∧ Aside0 (Below w.heap.size w w'))
 case atStart => exact ⟨(0), (0), (0), z31_1, z31_1, z31_1, H', ⟨Nat.le_refl _⟩, ⟨bu BK371.out⟩, ⟨z31_5⟩⟩
 case round =>
  clear H'
  obtain ⟨x3_1, x4_1, x16_1, rfl, rfl, rfl, HA, HK1, BK371, HB⟩ := hrel
  cases gk with
  | zero => exact absurd HA.out (by simp [impl_ProgOk.l0])
  | succ k1 =>
   have H := HA.out
   clear HA
   simp only [impl_ProgOk.l0] at H
   by_cases c7 : x16_1 < (l0_0.length : Int)
   ·rw [if_pos c7] at H
    have c7b0 : decide (x16_1 < (l0_0.length : Int)) = true := decide_eq_true c7
    clear c7
    by_cases c8 : 0 ≤ x16_1
    ·rw [if_pos c8] at H
     have c8b0 : decide (0 ≤ x16_1) = true := decide_eq_true c8
     clear c8
     by_cases c9 : x16_1 < (l0_0.length : Int)
     ·rw [if_pos c9] at H
      have c9b0 : decide (x16_1 < (l0_0.length : Int)) = true := decide_eq_true c9
      clear c9
      replace H := Option.bind_eq_some_iff.mp H
      obtain ⟨t373, A100, H⟩ := H
      replace H : (if t373 = true then (impl_ProgOk.l1 k1 (wrap64 (x3_1 + ((rd_L7 l0_0 x16_1).length : Int))) x4_1 l0_0 (l0_0.length : Int) x16_1 (rd_L7 l0_0 x16_1) ((rd_L7 l0_0 x16_1).length : Int) 0) else (some false)) = some r := H
      have A10 := am_ A100
      clear A100
      by_cases c11 : t373 = true
      ·subst c11
       have H1 : (impl_ProgOk.l1 k1 (wrap64 (x3_1 + ((rd_L7 l0_0 x16_1).length : Int))) x4_1 l0_0 (l0_0.length : Int) x16_1 (rd_L7 l0_0 x16_1) ((rd_L7 l0_0 x16_1).length : Int) 0) = some r := by rw [if_pos rfl] at H; exact H
       clear H
       have H := H1
       clear H1
       have H' := am_ H
       clear H
       have p372 : 0 ≤ (x16_1 : Int) := of_decide_eq_true z31_2
       have q372 : x16_1 < (l0_0.length : Int) := of_decide_eq_true z31_2
       obtain ⟨ad372, A372_0, c372_0, e372, hx372_0, hl372_0, hi372_0⟩ := at_L7 HR0_0.out x16_1 p372 q372
       cases e372
       replace hx372_0 := (HB.out.cell (World.block_lt_of_cell? w _ hx372_0)).trans hx372_0
       have HR372_0 := am_ hi372_0
       have HC372_0 := am_ hl372_0
       clear hi372_0 hl372_0
       replace p372 := eq_true p372
       replace q372 := eq_true q372
       go_wp2_with (first | ((with_reducible refine gate_callee (f := 77) rfl ?_); refine goesL_ (some 21) rfl rfl Try.func77 (by kernel_rfl) rfl #[.slice A372_0 (rd_L7 l0_0 x16_1).length c372_0] rfl (by (try simp only [List.map_toArray, List.map_cons, List.map_nil]); first | done | rfl | (simp only [List.length_drop, List.length_take]; rfl)) ?_; (with_reducible refine (impl_threadOk.calls k1 _ _ (rd_L7 l0_0 x16_1) true _ ?side1 ?side2 A10.out).mono ?_); (case side1 => repeat (first | exact (Kd.C_below HR372_0.out HB.out) | (with_reducible refine Kd.C_alloc ?_ _) | (with_reducible refine Kd.C_drewN ?_ _) | (with_reducible refine Kd.C_drew ?_))); (case side2 => exact HC372_0.out); rintro e w12 ⟨rfl, hb⟩; refine ⟨_, rfl, ?_⟩; replace BK371 := am_ (blk_below (bu BK371.out) hb); replace HB := am_ (below_step z31_5 hb); (try clear hb); (try clear hb2); (try clear hk); (try clear hi)))
       go_loopg [4, 29] k1 (fun kq v4 v29 w' => ∃ (x4_2 : Int) (x29_2 : Int), v4 = .int .i64 x4_2 ∧ v29 = .int .i64 x29_2 ∧ Aside0 (impl_ProgOk.l1 kq (wrap64 (x3_1 + ((rd_L7 l0_0 x16_1).length : Int))) x4_2 l0_0 (l0_0.length : Int) x16_1 (rd_L7 l0_0 x16_1) ((rd_L7 l0_0 x16_1).length : Int) x29_2 = some r) ∧ Aside0 (kq ≤ k1) ∧ Aside0 (w'.heap[gb371]? = some (.cells #[(.slice (some ad372) l0_0.length c0_0)] 35 (0, 0))) ∧ Aside0 (Below w.heap.size w w'))
       case atStart => exact ⟨(x4_1), (0), z31_1, z31_1, H', ⟨Nat.le_refl _⟩, ⟨bu BK371.out⟩, ⟨z31_5⟩⟩
       case round =>
        clear H'
        obtain ⟨x4_2, x29_2, rfl, rfl, HA, HK2, BK371, HB⟩ := hrel
        cases gk with
        | zero => exact absurd HA.out (by simp [impl_ProgOk.l1])
        | succ k2 =>
         have H := HA.out
         clear HA
         simp only [impl_ProgOk.l1] at H
         by_cases c13 : x29_2 < ((rd_L7 l0_0 x16_1).length : Int)
         ·rw [if_pos c13] at H
          have c13b0 : decide (x29_2 < ((rd_L7 l0_0 x16_1).length : Int)) = true := decide_eq_true c13
          clear c13
          by_cases c14 : 0 ≤ x29_2
          ·rw [if_pos c14] at H
           have c14b0 : decide (0 ≤ x29_2) = true := decide_eq_true c14
           clear c14
           by_cases c15 : x29_2 < ((rd_L7 l0_0 x16_1).length : Int)
           ·rw [if_pos c15] at H
            have c15b0 : decide (x29_2 < ((rd_L7 l0_0 x16_1).length : Int)) = true := decide_eq_true c15
            clear c15
            replace H := Option.bind_eq_some_iff.mp H
            obtain ⟨t376, A160, H⟩ := H
            replace H : (if t376 = true then (impl_ProgOk.l1 k2 (wrap64 (x3_1 + ((rd_L7 l0_0 x16_1).length : Int))) (wrap64 (x4_2 + 1)) l0_0 (l0_0.length : Int) x16_1 (rd_L7 l0_0 x16_1) ((rd_L7 l0_0 x16_1).length : Int) (wrap64 (x29_2 + 1))) else (impl_ProgOk.l1 k2 (wrap64 (x3_1 + ((rd_L7 l0_0 x16_1).length : Int))) x4_2 l0_0 (l0_0.length : Int) x16_1 (rd_L7 l0_0 x16_1) ((rd_L7 l0_0 x16_1).length : Int) (wrap64 (x29_2 + 1)))) = some r := H
            have A16 := am_ A160
            clear A160
            by_cases c17 : t376 = true
            ·subst c17
             have H1 : (impl_ProgOk.l1 k2 (wrap64 (x3_1 + ((rd_L7 l0_0 x16_1).length : Int))) (wrap64 (x4_2 + 1)) l0_0 (l0_0.length : Int) x16_1 (rd_L7 l0_0 x16_1) ((rd_L7 l0_0 x16_1).length : Int) (wrap64 (x29_2 + 1))) = some r := by rw [if_pos rfl] at H; exact H
             clear H
             have H := H1
             clear H1
             have H' := am_ H
             clear H
             have p374 : 0 ≤ (x29_2 : Int) := of_decide_eq_true z31_2
             have q374 : x29_2 < ((rd_L7 l0_0 x16_1).length : Int) := of_decide_eq_true z31_2
             obtain ⟨ad374, e374, hx374_0, hx374_1, hx374_2⟩ := at_T85 HR372_0.out x29_2 p374 q374
             cases e374
             replace hx374_0 := (HB.out.cell (World.block_lt_of_cell? w _ hx374_0)).trans hx374_0
             replace hx374_1 := (HB.out.cell (World.block_lt_of_cell? w _ hx374_1)).trans hx374_1
             replace hx374_2 := (HB.out.cell (World.block_lt_of_cell? w _ hx374_2)).trans hx374_2
             replace p374 := eq_true p374
             replace q374 := eq_true q374
             go_wp2_with (first | ((with_reducible refine gate_dst (N := 8) rfl ?_); refine box_event ?hg (N := 8) ?hd (cs := #[.int .i64 0, .int .i64 0, .int .i64 0]) (t := 85) ?hr ?_; (case hd => rfl); (case hg => rfl); (case hr => first | (go_simp; done) | (go_simp; rfl)); intro gb375 hg w18 hbox hb; have n0_ := am_ (blk_below (bu BK371.out) hb); have n1_ := am_ (below_step z31_5 hb); have n2_ := am_ (hbox); have n3_ := am_ (by rw [hg]; exact (below_size z31_5) : w.heap.size ≤ gb375); have n4_ := am_ (by rw [hg]; exact (below_size z31_5) : w.heap.size ≤ gb375); have n5_ := am_ (by rw [hg]; exact Nat.ne_of_lt (blk_lt (bu BK371.out)) : gb371 ≠ gb375); have n6_ := am_ (by rw [hg]; exact Nat.ne_of_gt (blk_lt (bu BK371.out)) : gb375 ≠ gb371); clear BK371 HB; have BK371 := n0_; have HB := n1_; have BK375 := n2_; have GW375 := n3_; have GE375 := n4_; have NB371_375 := n5_; have NB375_371 := n6_; clear n0_ n1_ n2_ n3_ n4_ n5_ n6_; clear hb hbox hg; have hnb19 := NB375_371.out; have hnc19 := NB371_375.out; have hcz20_0 := cf0 BK375.out; have hcz20_1 := cf1 BK375.out; have hcz20_2 := cf2 BK375.out; have hfz20_0 := blk_frozen BK375.out 0; have hfz20_1 := blk_frozen BK375.out 1; have hfz20_2 := blk_frozen BK375.out 2) | ((with_reducible refine gate_callee (f := 78) rfl ?_); refine goesL_ (some 34) rfl rfl Try.func78 (by kernel_rfl) rfl #[.agg #[.int .i64 ((rd_T85 (rd_L7 l0_0 x16_1) x29_2).f0), .int .i64 ((rd_T85 (rd_L7 l0_0 x16_1) x29_2).f1), .int .i64 ((rd_T85 (rd_L7 l0_0 x16_1) x29_2).f2)]] rfl (by (try simp only [List.map_toArray, List.map_cons, List.map_nil]); first | done | rfl | (simp only [List.length_drop, List.length_take]; rfl)) ?_; (with_reducible refine (impl_Do_uses.calls ((rd_T85 (rd_L7 l0_0 x16_1) x29_2).f0) ((rd_T85 (rd_L7 l0_0 x16_1) x29_2).f1) ((rd_T85 (rd_L7 l0_0 x16_1) x29_2).f2) true _ A16.out).mono ?_); rintro e w21 ⟨rfl, hb⟩; refine ⟨_, rfl, ?_⟩; replace BK371 := am_ (blk_below (g := gb371) (o := .cells #[.slice (some ad372) l0_0.length c0_0] 35 (0, 0)) z31_7 hb); replace BK375 := am_ (blk_below (g := gb375) (o := .cells #[.int .i64 ((rd_T85 (rd_L7 l0_0 x16_1) x29_2).f0), .int .i64 ((rd_T85 (rd_L7 l0_0 x16_1) x29_2).f1), .int .i64 ((rd_T85 (rd_L7 l0_0 x16_1) x29_2).f2)] 85 (0, 0)) z31_8 hb); replace HB := am_ (below_step z31_6 hb); (try clear hb); (try clear hb2); (try clear hk); (try clear hi)))
             go_roundg k2
             case measure => have := HK1.out; have := HK2.out; omega
             case rel => exact ⟨(wrap64 (x4_2 + 1)), (wrap64 (x29_2 + 1)), z31_1, z31_1, H', ⟨by have := HK1.out; have := HK2.out; omega⟩, ⟨bu BK371.out⟩, ⟨z31_6⟩⟩
            replace c17 := Bool.eq_false_iff.mpr c17
            subst c17
            have H1 : (impl_ProgOk.l1 k2 (wrap64 (x3_1 + ((rd_L7 l0_0 x16_1).length : Int))) x4_2 l0_0 (l0_0.length : Int) x16_1 (rd_L7 l0_0 x16_1) ((rd_L7 l0_0 x16_1).length : Int) (wrap64 (x29_2 + 1))) = some r := by rw [if_neg (show ¬ (false = true) by decide)] at H; exact H
            clear H
            have H := H1
            clear H1
            have H' := am_ H
            clear H
            have p374 : 0 ≤ (x29_2 : Int) := of_decide_eq_true z31_2
            have q374 : x29_2 < ((rd_L7 l0_0 x16_1).length : Int) := of_decide_eq_true z31_2
            obtain ⟨ad374, e374, hx374_0, hx374_1, hx374_2⟩ := at_T85 HR372_0.out x29_2 p374 q374
            cases e374
            replace hx374_0 := (HB.out.cell (World.block_lt_of_cell? w _ hx374_0)).trans hx374_0
            replace hx374_1 := (HB.out.cell (World.block_lt_of_cell? w _ hx374_1)).trans hx374_1
            replace hx374_2 := (HB.out.cell (World.block_lt_of_cell? w _ hx374_2)).trans hx374_2
            replace p374 := eq_true p374
            replace q374 := eq_true q374
            go_wp2_with (first | ((with_reducible refine gate_dst (N := 8) rfl ?_); refine box_event ?hg (N := 8) ?hd (cs := #[.int .i64 0, .int .i64 0, .int .i64 0]) (t := 85) ?hr ?_; (case hd => rfl); (case hg => rfl); (case hr => first | (go_simp; done) | (go_simp; rfl)); intro gb375 hg w22 hbox hb; have n0_ := am_ (blk_below (bu BK371.out) hb); have n1_ := am_ (below_step z31_5 hb); have n2_ := am_ (hbox); have n3_ := am_ (by rw [hg]; exact (below_size z31_5) : w.heap.size ≤ gb375); have n4_ := am_ (by rw [hg]; exact (below_size z31_5) : w.heap.size ≤ gb375); have n5_ := am_ (by rw [hg]; exact Nat.ne_of_lt (blk_lt (bu BK371.out)) : gb371 ≠ gb375); have n6_ := am_ (by rw [hg]; exact Nat.ne_of_gt (blk_lt (bu BK371.out)) : gb375 ≠ gb371); clear BK371 HB; have BK371 := n0_; have HB := n1_; have BK375 := n2_; have GW375 := n3_; have GE375 := n4_; have NB371_375 := n5_; have NB375_371 := n6_; clear n0_ n1_ n2_ n3_ n4_ n5_ n6_; clear hb hbox hg; have hnb23 := NB375_371.out; have hnc23 := NB371_375.out; have hcz24_0 := cf0 BK375.out; have hcz24_1 := cf1 BK375.out; have hcz24_2 := cf2 BK375.out; have hfz24_0 := blk_frozen BK375.out 0; have hfz24_1 := blk_frozen BK375.out 1; have hfz24_2 := blk_frozen BK375.out 2) | ((with_reducible refine gate_callee (f := 78) rfl ?_); refine goesL_ (some 34) rfl rfl Try.func78 (by kernel_rfl) rfl #[.agg #[.int .i64 ((rd_T85 (rd_L7 l0_0 x16_1) x29_2).f0), .int .i64 ((rd_T85 (rd_L7 l0_0 x16_1) x29_2).f1), .int .i64 ((rd_T85 (rd_L7 l0_0 x16_1) x29_2).f2)]] rfl (by (try simp only [List.map_toArray, List.map_cons, List.map_nil]); first | done | rfl | (simp only [List.length_drop, List.length_take]; rfl)) ?_; (with_reducible refine (impl_Do_uses.calls ((rd_T85 (rd_L7 l0_0 x16_1) x29_2).f0) ((rd_T85 (rd_L7 l0_0 x16_1) x29_2).f1) ((rd_T85 (rd_L7 l0_0 x16_1) x29_2).f2) false _ A16.out).mono ?_); rintro e w25 ⟨rfl, hb⟩; refine ⟨_, rfl, ?_⟩; replace BK371 := am_ (blk_below (g := gb371) (o := .cells #[.slice (some ad372) l0_0.length c0_0] 35 (0, 0)) z31_7 hb); replace BK375 := am_ (blk_below (g := gb375) (o := .cells #[.int .i64 ((rd_T85 (rd_L7 l0_0 x16_1) x29_2).f0), .int .i64 ((rd_T85 (rd_L7 l0_0 x16_1) x29_2).f1), .int .i64 ((rd_T85 (rd_L7 l0_0 x16_1) x29_2).f2)] 85 (0, 0)) z31_8 hb); replace HB := am_ (below_step z31_6 hb); (try clear hb); (try clear hb2); (try clear hk); (try clear hi)))
            go_roundg k2
            case measure => have := HK1.out; have := HK2.out; omega
            case rel => exact ⟨(x4_2), (wrap64 (x29_2 + 1)), z31_1, z31_1, H', ⟨by have := HK1.out; have := HK2.out; omega⟩, ⟨bu BK371.out⟩, ⟨z31_6⟩⟩
           rw [if_neg c15] at H
           exact absurd H (by simp)
          rw [if_neg c14] at H
          exact absurd H (by simp)
         rw [if_neg c13] at H
         have c13b0 : decide (x29_2 < ((rd_L7 l0_0 x16_1).length : Int)) = false := decide_eq_false c13
         clear c13
         have H' := am_ H
         clear H
         go_wp2
         go_roundg k2
         case measure => have := HK1.out; have := HK2.out; omega
         case rel => exact ⟨((wrap64 (x3_1 + ((rd_L7 l0_0 x16_1).length : Int)))), (x4_2), (wrap64 (x16_1 + 1)), z31_1, z31_1, z31_1, H', ⟨by have := HK1.out; have := HK2.out; omega⟩, ⟨bu BK371.out⟩, ⟨z31_5⟩⟩
      replace c11 := Bool.eq_false_iff.mpr c11
      subst c11
      have H1 : (some false) = some r := by rw [if_neg (show ¬ (false = true) by decide)] at H; exact H
      clear H
      have H := H1
      clear H1
      obtain rfl := Option.some.inj H
      have p372 : 0 ≤ (x16_1 : Int) := of_decide_eq_true z31_2
      have q372 : x16_1 < (l0_0.length : Int) := of_decide_eq_true z31_2
      obtain ⟨ad372, A372_0, c372_0, e372, hx372_0, hl372_0, hi372_0⟩ := at_L7 HR0_0.out x16_1 p372 q372
      cases e372
      replace hx372_0 := (HB.out.cell (World.block_lt_of_cell? w _ hx372_0)).trans hx372_0
      have HR372_0 := am_ hi372_0
      have HC372_0 := am_ hl372_0
      clear hi372_0 hl372_0
      replace p372 := eq_true p372
      replace q372 := eq_true q372
      go_wp2_with (first | ((with_reducible refine gate_callee (f := 77) rfl ?_); refine goesL_ (some 21) rfl rfl Try.func77 (by kernel_rfl) rfl #[.slice A372_0 (rd_L7 l0_0 x16_1).length c372_0] rfl (by (try simp only [List.map_toArray, List.map_cons, List.map_nil]); first | done | rfl | (simp only [List.length_drop, List.length_take]; rfl)) ?_; (with_reducible refine (impl_threadOk.calls k1 _ _ (rd_L7 l0_0 x16_1) false _ ?side1 ?side2 A10.out).mono ?_); (case side1 => repeat (first | exact (Kd.C_below HR372_0.out HB.out) | (with_reducible refine Kd.C_alloc ?_ _) | (with_reducible refine Kd.C_drewN ?_ _) | (with_reducible refine Kd.C_drew ?_))); (case side2 => exact HC372_0.out); rintro e w26 ⟨rfl, hb⟩; refine ⟨_, rfl, ?_⟩; replace BK371 := am_ (blk_below (bu BK371.out) hb); replace HB := am_ (below_step z31_5 hb); (try clear hb); (try clear hb2); (try clear hk); (try clear hi)))
      go_ret
      exact ⟨z31_3, z31_5⟩
     rw [if_neg c9] at H
     exact absurd H (by simp)
    rw [if_neg c8] at H
    exact absurd H (by simp)
   rw [if_neg c7] at H
   have c7b0 : decide (x16_1 < (l0_0.length : Int)) = false := decide_eq_false c7
   clear c7
   by_cases c27 : x3_1 ≤ 14
   ·rw [if_pos c27] at H
    have c27b0 : decide (x3_1 ≤ 14) = true := decide_eq_true c27
    clear c27
    obtain rfl := Option.some.inj H
    go_wp2
    go_ret
    exact ⟨z31_3, z31_5⟩
   rw [if_neg c27] at H
   have c27b0 : decide (x3_1 ≤ 14) = false := decide_eq_false c27
   clear c27
   obtain rfl := Option.some.inj H
   go_wp2
   go_ret
   exact ⟨z31_3, z31_5⟩

end Go.Proofs.Ytefkbmhkhpekjaa.PB

-- Written by this session's wip/myprint.py (the kit's print.py, with hand-written chunks). Lean checks it.
import Derived.Test.YtefkbmhkhpekjaaPBx0
import Derived.Test.YtefkbmhkhpekjaaPBx31
import Derived.Test.YtefkbmhkhpekjaaPBx91
namespace Go.Proofs.Ytefkbmhkhpekjaa.PB
open Go.RowKit Go.Proofs.YtefkbmhkhpekjaaW.PrintWords Go.Proofs.YtefkbmhkhpekjaaW.PrintLast Go.Proofs.YtefkbmhkhpekjaaW.PrintMore
attribute [local go_sem] max2_int min2_int max_two min_two max_three min_three max_four min_four   -- for this text's walks alone
open Go.Proofs.YtefkbmhkhpekjaaMine
set_option linter.unusedVariables false
set_option linter.unusedSimpArgs false

theorem z40_1 {p : Prop} (h : p := by first | rfl | (simp; done) | (simp [*]; done)) : p := h
theorem z40_2 {p : Prop} (h : p := by first | rfl | (simp [errW_none, errW_some] <;> rfl) | (simp [*, errW_none, errW_some] <;> rfl)) : p := h
theorem z40_3 {p : Prop} (h : p := by repeat (first | (with_reducible first | exact HB.out | apply below_alloc | apply pw_below_drewN | apply below_drew1) | exact HB.out)) : p := h
theorem z40_4 {p : Prop} (h : p := by repeat (first | (with_reducible first | exact HB.out | apply below_alloc | apply pw_below_drewN | apply below_drew1 | refine below_set ?_ GE673.out) | exact HB.out)) : p := h
/-! ### impl_ProgReads: function 40 -/
def impl_ProgReads.l0 : Nat → Int → List (List (S85)) → Int → Int → Option (Int)
  | 0, _, _, _, _ => none
  | k + 1, x3, x10, x11, x12 => if x12 < x11 then (if 0 ≤ x12 then (if x12 < (x10.length : Int) then ((impl_readsOf.f k (rd_L7 x10 x12)).bind fun t676 => (impl_ProgReads.l0 k (wrap64 (x3 + t676)) x10 x11 (wrap64 (x12 + 1)))) else (none)) else (none)) else (some x3)
def impl_ProgReads.f (k : Nat) (l0_0 : List (List (S85))) : Option (Int) := (impl_ProgOk.f k l0_0).bind fun t674 => (if t674 = true then (impl_ProgReads.l0 k 0 l0_0 (l0_0.length : Int) 0) else (some (-1)))
theorem impl_ProgReads.mono_l : ∀ k, (∀ y0 y1 y2 y3, LeO (impl_ProgReads.l0 k y0 y1 y2 y3) (impl_ProgReads.l0 (k + 1) y0 y1 y2 y3))
  | 0 => fun _ _ _ _ r h => by simp [impl_ProgReads.l0] at h
  | k + 1 => by
    have ih0 := impl_ProgReads.mono_l k
    · intro y0 y1 y2 y3
      unfold impl_ProgReads.l0
      repeat' first
      | (with_reducible exact ih0 _ _ _ _)
      | (with_reducible exact impl_ProgOk.mono _ _)
      | (with_reducible exact impl_readsOf.mono _ _)
      | (with_reducible exact LeO.refl _)
      | (with_reducible exact LeO.none _)
      | (with_reducible refine LeO.ite ?_ ?_)
      | (with_reducible refine LeO.bind ?_ (fun _ => ?_))
      | exact ih0 _ _ _ _
      | exact impl_ProgOk.mono _ _
      | exact impl_readsOf.mono _ _
      | exact LeO.none _
      | refine LeO.ite ?_ ?_
      | refine LeO.bind ?_ (fun _ => ?_)
theorem impl_ProgReads.mono : ∀ a0 k, LeO (impl_ProgReads.f k a0) (impl_ProgReads.f (k + 1) a0) := by
  intro a0 k
  have ih0 := impl_ProgReads.mono_l k
  unfold impl_ProgReads.f
  repeat' first
      | (with_reducible exact ih0 _ _ _ _)
      | (with_reducible exact impl_ProgOk.mono _ _)
      | (with_reducible exact impl_readsOf.mono _ _)
      | (with_reducible exact LeO.refl _)
      | (with_reducible exact LeO.none _)
      | (with_reducible refine LeO.ite ?_ ?_)
      | (with_reducible refine LeO.bind ?_ (fun _ => ?_))
      | exact ih0 _ _ _ _
      | exact impl_ProgOk.mono _ _
      | exact impl_readsOf.mono _ _
      | exact LeO.none _
      | refine LeO.ite ?_ ?_
      | refine LeO.bind ?_ (fun _ => ?_)
set_option maxHeartbeats 8000000 in
set_option maxRecDepth 100000 in
theorem impl_ProgReads.calls (k : Nat) (A0_0 : Option Addr) (c0_0 : Nat) (l0_0 : List (List (S85))) (r : Int) (w : World) (hr0_0 : Kd.C (Kd.slice 85 k85) w A0_0 l0_0.length l0_0) (hc0_0 : l0_0.length ≤ c0_0) (h : impl_ProgReads.f k l0_0 = some r) :
  Calls Try.prog 40 #[.agg #[.slice A0_0 l0_0.length c0_0]] w fun e w' => e = .returned (.int .i64 r) ∧ Below w.heap.size w w' := by
 have hu35 := Try.underlying35
 have HR0_0 := am_ hr0_0
 have HC0_0 := am_ hc0_0
 clear hr0_0 hc0_0
 have HB := am_ (Below.refl w.heap.size w)
 have H : ((impl_ProgOk.f k l0_0).bind fun t674 => (if t674 = true then (impl_ProgReads.l0 k 0 l0_0 (l0_0.length : Int) 0) else (some (-1)))) = some r := h
 clear h
 replace H := Option.bind_eq_some_iff.mp H
 obtain ⟨t674, A20, H⟩ := H
 replace H : (if t674 = true then (impl_ProgReads.l0 k 0 l0_0 (l0_0.length : Int) 0) else (some (-1))) = some r := H
 have A2 := am_ A20
 clear A20
 by_cases c3 : t674 = true
 ·subst c3
  have H1 : (impl_ProgReads.l0 k 0 l0_0 (l0_0.length : Int) 0) = some r := by rw [if_pos rfl] at H; exact H
  clear H
  have H := H1
  clear H1
  have H' := am_ H
  clear H
  go_enter Try.func40, Try.ntmps40
  go_wp2_with (first | ((with_reducible refine gate_dst (N := 1) rfl ?_); refine box_event ?hg (N := 1) ?hd (cs := #[.slice A0_0 l0_0.length c0_0]) (t := 35) ?hr ?_; (case hd => rfl); (case hg => rfl); (case hr => first | (go_simp; done) | (go_simp; rfl)); intro gb673 hg w4 hbox hb; have n0_ := am_ (below_step z40_3 hb); have n1_ := am_ (hbox); have n2_ := am_ (by rw [hg]; exact (below_size z40_3) : w.heap.size ≤ gb673); have n3_ := am_ (by rw [hg]; exact (below_size z40_3) : w.heap.size ≤ gb673); clear HB; have HB := n0_; have BK673 := n1_; have GW673 := n2_; have GE673 := n3_; clear n0_ n1_ n2_ n3_; clear hb hbox hg; have hcz5_0 : w4.cell? ⟨gb673, 0, none⟩ = some (.slice A0_0 l0_0.length c0_0) := (blk_cell BK673.out 0).trans rfl; have hfz5_0 := blk_frozen BK673.out 0) | ((with_reducible refine gate_callee (f := 31) rfl ?_); refine goesL_ (some 7) rfl rfl Try.func31 (by kernel_rfl) rfl #[.agg #[.slice A0_0 l0_0.length c0_0]] rfl (by (try simp only [List.map_toArray, List.map_cons, List.map_nil]); first | done | rfl | (simp only [List.length_drop, List.length_take]; rfl)) ?_; (with_reducible refine (impl_ProgOk.calls k _ _ l0_0 true _ ?side1 ?side2 A2.out).mono ?_); (case side1 => repeat (first | exact (Kd.C_below HR0_0.out HB.out) | (with_reducible refine Kd.C_alloc ?_ _) | (with_reducible refine Kd.C_drewN ?_ _) | (with_reducible refine Kd.C_drew ?_))); (case side2 => exact HC0_0.out); rintro e w6 ⟨rfl, hb⟩; refine ⟨_, rfl, ?_⟩; have n0_ := am_ (blk_below (bu BK673.out) hb); have n1_ := am_ (below_step z40_4 hb); clear BK673 HB; have BK673 := n0_; have HB := n1_; clear n0_ n1_; (try clear hb); (try clear hb2); (try clear hk); (try clear hi); have hcz7_0 : w6.cell? ⟨gb673, 0, none⟩ = some (.slice A0_0 l0_0.length c0_0) := (blk_cell BK673.out 0).trans rfl; have hfz7_0 := blk_frozen BK673.out 0))
  go_loopg [3, 12] k (fun kq v3 v12 w' => ∃ (x3_1 : Int) (x12_1 : Int), v3 = .int .i64 x3_1 ∧ v12 = .int .i64 x12_1 ∧ Aside0 (impl_ProgReads.l0 kq x3_1 l0_0 (l0_0.length : Int) x12_1 = some r) ∧ Aside0 (kq ≤ k) ∧ Aside0 (w'.heap[gb673]? = some (.cells #[(.slice A0_0 l0_0.length c0_0)] 35 (0, 0))) ∧ Aside0 (Below w.heap.size w w'))
  case atStart => exact ⟨(0), (0), z40_1, z40_1, H', ⟨Nat.le_refl _⟩, ⟨bu BK673.out⟩, ⟨z40_4⟩⟩
  case round =>
   clear H'
   obtain ⟨x3_1, x12_1, rfl, rfl, HA, HK1, BK673, HB⟩ := hrel
   cases gk with
   | zero => exact absurd HA.out (by simp [impl_ProgReads.l0])
   | succ k1 =>
    have H := HA.out
    clear HA
    simp only [impl_ProgReads.l0] at H
    by_cases c8 : x12_1 < (l0_0.length : Int)
    ·rw [if_pos c8] at H
     have c8b0 : decide (x12_1 < (l0_0.length : Int)) = true := decide_eq_true c8
     clear c8
     by_cases c9 : 0 ≤ x12_1
     ·rw [if_pos c9] at H
      have c9b0 : decide (0 ≤ x12_1) = true := decide_eq_true c9
      clear c9
      by_cases c10 : x12_1 < (l0_0.length : Int)
      ·rw [if_pos c10] at H
       have c10b0 : decide (x12_1 < (l0_0.length : Int)) = true := decide_eq_true c10
       clear c10
       replace H := Option.bind_eq_some_iff.mp H
       obtain ⟨t676, A110, H⟩ := H
       replace H : (impl_ProgReads.l0 k1 (wrap64 (x3_1 + t676)) l0_0 (l0_0.length : Int) (wrap64 (x12_1 + 1))) = some r := H
       have A11 := am_ A110
       clear A110
       have H' := am_ H
       clear H
       have p675 : 0 ≤ (x12_1 : Int) := of_decide_eq_true (by first | (with_reducible assumption) | assumption)
       have q675 : x12_1 < (l0_0.length : Int) := of_decide_eq_true (by first | (with_reducible assumption) | assumption)
       obtain ⟨ad675, A675_0, c675_0, e675, hx675_0, hl675_0, hi675_0⟩ := at_L7 HR0_0.out x12_1 p675 q675
       cases e675
       replace hx675_0 := (HB.out.cell (World.block_lt_of_cell? w _ hx675_0)).trans hx675_0
       have HR675_0 := am_ hi675_0
       have HC675_0 := am_ hl675_0
       clear hi675_0 hl675_0
       replace p675 := eq_true p675
       replace q675 := eq_true q675
       go_wp2_with (first | ((with_reducible refine gate_callee (f := 91) rfl ?_); refine goesL_ (some 18) rfl rfl Try.func91 (by kernel_rfl) rfl #[.slice A675_0 (rd_L7 l0_0 x12_1).length c675_0] rfl (by (try simp only [List.map_toArray, List.map_cons, List.map_nil]); first | done | rfl | (simp only [List.length_drop, List.length_take]; rfl)) ?_; (with_reducible refine (impl_readsOf.calls k1 _ _ (rd_L7 l0_0 x12_1) t676 _ ?side1 ?side2 A11.out).mono ?_); (case side1 => repeat (first | exact (Kd.C_below HR675_0.out HB.out) | (with_reducible refine Kd.C_alloc ?_ _) | (with_reducible refine Kd.C_drewN ?_ _) | (with_reducible refine Kd.C_drew ?_))); (case side2 => exact HC675_0.out); rintro e w12 ⟨rfl, hb⟩; refine ⟨_, rfl, ?_⟩; have n0_ := am_ (blk_below (bu BK673.out) hb); have n1_ := am_ (below_step z40_4 hb); clear BK673 HB; have BK673 := n0_; have HB := n1_; clear n0_ n1_; (try clear hb); (try clear hb2); (try clear hk); (try clear hi)))
       go_roundg k1
       case measure => have := HK1.out; omega
       case rel => exact ⟨(wrap64 (x3_1 + t676)), (wrap64 (x12_1 + 1)), z40_1, z40_1, H', ⟨by have := HK1.out; omega⟩, ⟨bu BK673.out⟩, ⟨z40_4⟩⟩
      ·rw [if_neg c10] at H
       exact absurd H (by simp)
     ·rw [if_neg c9] at H
      exact absurd H (by simp)
    ·rw [if_neg c8] at H
     have c8b0 : decide (x12_1 < (l0_0.length : Int)) = false := decide_eq_false c8
     clear c8
     obtain rfl := Option.some.inj H
     go_wp2
     go_ret
     exact ⟨z40_2, z40_4⟩
 ·replace c3 := Bool.eq_false_iff.mpr c3
  subst c3
  have H1 : (some (-1)) = some r := by rw [if_neg (show ¬ (false = true) by decide)] at H; exact H
  clear H
  have H := H1
  clear H1
  obtain rfl := Option.some.inj H
  go_enter Try.func40, Try.ntmps40
  go_wp2_with (first | ((with_reducible refine gate_dst (N := 1) rfl ?_); refine box_event ?hg (N := 1) ?hd (cs := #[.slice A0_0 l0_0.length c0_0]) (t := 35) ?hr ?_; (case hd => rfl); (case hg => rfl); (case hr => first | (go_simp; done) | (go_simp; rfl)); intro gb673 hg w13 hbox hb; have n0_ := am_ (below_step z40_3 hb); have n1_ := am_ (hbox); have n2_ := am_ (by rw [hg]; exact (below_size z40_3) : w.heap.size ≤ gb673); have n3_ := am_ (by rw [hg]; exact (below_size z40_3) : w.heap.size ≤ gb673); clear HB; have HB := n0_; have BK673 := n1_; have GW673 := n2_; have GE673 := n3_; clear n0_ n1_ n2_ n3_; clear hb hbox hg; have hcz14_0 : w13.cell? ⟨gb673, 0, none⟩ = some (.slice A0_0 l0_0.length c0_0) := (blk_cell BK673.out 0).trans rfl; have hfz14_0 := blk_frozen BK673.out 0) | ((with_reducible refine gate_callee (f := 31) rfl ?_); refine goesL_ (some 7) rfl rfl Try.func31 (by kernel_rfl) rfl #[.agg #[.slice A0_0 l0_0.length c0_0]] rfl (by (try simp only [List.map_toArray, List.map_cons, List.map_nil]); first | done | rfl | (simp only [List.length_drop, List.length_take]; rfl)) ?_; (with_reducible refine (impl_ProgOk.calls k _ _ l0_0 false _ ?side1 ?side2 A2.out).mono ?_); (case side1 => repeat (first | exact (Kd.C_below HR0_0.out HB.out) | (with_reducible refine Kd.C_alloc ?_ _) | (with_reducible refine Kd.C_drewN ?_ _) | (with_reducible refine Kd.C_drew ?_))); (case side2 => exact HC0_0.out); rintro e w15 ⟨rfl, hb⟩; refine ⟨_, rfl, ?_⟩; have n0_ := am_ (blk_below (bu BK673.out) hb); have n1_ := am_ (below_step z40_4 hb); clear BK673 HB; have BK673 := n0_; have HB := n1_; clear n0_ n1_; (try clear hb); (try clear hb2); (try clear hk); (try clear hi)))
  go_ret
  exact ⟨z40_2, z40_4⟩

end Go.Proofs.Ytefkbmhkhpekjaa.PB

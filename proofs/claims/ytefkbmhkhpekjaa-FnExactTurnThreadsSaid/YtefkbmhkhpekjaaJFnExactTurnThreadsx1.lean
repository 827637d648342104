-- Joined by wip/mclaim.py out of YtefkbmhkhpekjaaPBx116, YtefkbmhkhpekjaaPBx77, YtefkbmhkhpekjaaPBx31, YtefkbmhkhpekjaaPBx133, YtefkbmhkhpekjaaPBx120, YtefkbmhkhpekjaaPBx97, YtefkbmhkhpekjaaPBx98, YtefkbmhkhpekjaaPBx47, YtefkbmhkhpekjaaPBx87, YtefkbmhkhpekjaaPBx88, YtefkbmhkhpekjaaPBx72, YtefkbmhkhpekjaaPBx125
import Derived.Test.YtefkbmhkhpekjaaPBx0
import Derived.Test.YtefkbmhkhpekjaaJFnExactTurnThreadsx2
import Derived.Test.YtefkbmhkhpekjaaPBx114
namespace Go.Proofs.Ytefkbmhkhpekjaa.PB
open Go.RowKit Go.Proofs.YtefkbmhkhpekjaaW.PrintWords Go.Proofs.YtefkbmhkhpekjaaW.PrintLast Go.Proofs.YtefkbmhkhpekjaaW.PrintMore
attribute [local go_sem] max2_int min2_int max_two min_two max_three min_three max_four min_four   -- for this text's walks alone
open Go.Proofs.YtefkbmhkhpekjaaMine
set_option linter.unusedVariables false
set_option linter.unusedSimpArgs false

theorem z116_1 {p : Prop} (h : p := by first | rfl | (simp; done) | (simp [*]; done)) : p := h
theorem z116_2 {p : Prop} (h : p := by first | rfl | (simp [errW_none, errW_some] <;> rfl) | (simp [*, errW_none, errW_some] <;> rfl)) : p := h
theorem z116_3 {p : Prop} (h : p := by repeat (first | (with_reducible first | exact HB.out | apply below_alloc | apply pw_below_drewN | apply below_drew1) | exact HB.out)) : p := h
theorem z116_4 {p : Prop} (h : p := by repeat (first | (with_reducible first | exact HB.out | apply below_alloc | apply pw_below_drewN | apply below_drew1 | refine below_set ?_ GE360.out) | exact HB.out)) : p := h
/-! ### impl_Do_formed: function 116 -/
def impl_Do_formed.j0 : Nat → Bool → Int → Int → Int → Option (Bool)
  | 0, _, _, _, _ => none
  | k + 1, x3, x361000, x361001, x361002 => (impl_Do_valued.f x361000 x361001 x361002).bind fun t363 => (if t363 = true then ((impl_in.f x361002 1 3).bind fun t364 => ((impl_in.f x361000 1 9).bind fun t365 => (if t365 = true then (if x3 = true then (some t364) else (some false)) else (some false)))) else ((impl_in.f x361000 1 9).bind fun t366 => (if t366 = true then (if x3 = true then (some (x361002 == 0)) else (some false)) else (some false))))
def impl_Do_formed.f (k : Nat) (a0_0 : Int) (a0_1 : Int) (a0_2 : Int) : Option (Bool) := if a0_1 = 0 then (impl_Do_formed.j0 k true a0_0 a0_1 a0_2) else ((impl_Do_uses.f a0_0 a0_1 a0_2).bind fun t361 => (if t361 = true then ((impl_in.f a0_1 0 2).bind fun t362 => (impl_Do_formed.j0 k t362 a0_0 a0_1 a0_2)) else (impl_Do_formed.j0 k false a0_0 a0_1 a0_2)))
theorem impl_Do_formed.mono_l : ∀ k, (∀ y0 y1 y2 y3, LeO (impl_Do_formed.j0 k y0 y1 y2 y3) (impl_Do_formed.j0 (k + 1) y0 y1 y2 y3))
  | 0 => fun _ _ _ _ r h => by simp [impl_Do_formed.j0] at h
  | k + 1 => by
    have ih0 := impl_Do_formed.mono_l k
    · intro y0 y1 y2 y3
      unfold impl_Do_formed.j0
      repeat' first
      | (with_reducible exact ih0 _ _ _ _)
      | (with_reducible exact LeO.refl _)
      | (with_reducible exact LeO.none _)
      | (with_reducible refine LeO.ite ?_ ?_)
      | (with_reducible refine LeO.bind ?_ (fun _ => ?_))
      | exact ih0 _ _ _ _
      | exact LeO.none _
      | refine LeO.ite ?_ ?_
      | refine LeO.bind ?_ (fun _ => ?_)
theorem impl_Do_formed.mono : ∀ a0 a1 a2 k, LeO (impl_Do_formed.f k a0 a1 a2) (impl_Do_formed.f (k + 1) a0 a1 a2) := by
  intro a0 a1 a2 k
  have ih0 := impl_Do_formed.mono_l k
  unfold impl_Do_formed.f
  repeat' first
      | (with_reducible exact ih0 _ _ _ _)
      | (with_reducible exact LeO.refl _)
      | (with_reducible exact LeO.none _)
      | (with_reducible refine LeO.ite ?_ ?_)
      | (with_reducible refine LeO.bind ?_ (fun _ => ?_))
      | exact ih0 _ _ _ _
      | exact LeO.none _
      | refine LeO.ite ?_ ?_
      | refine LeO.bind ?_ (fun _ => ?_)
set_option maxHeartbeats 8000000 in
set_option maxRecDepth 100000 in
theorem impl_Do_formed.calls (k : Nat) (a0_0 : Int) (a0_1 : Int) (a0_2 : Int) (r : Bool) (w : World) (h : impl_Do_formed.f k a0_0 a0_1 a0_2 = some r) :
  Calls Try.prog 116 #[.agg #[.int .i64 a0_0, .int .i64 a0_1, .int .i64 a0_2]] w fun e w' => e = .returned (.bool r) ∧ Below w.heap.size w w' := by
 have hu85 := Try.underlying85
 have HB := am_ (Below.refl w.heap.size w)
 have H : (if a0_1 = 0 then (impl_Do_formed.j0 k true a0_0 a0_1 a0_2) else ((impl_Do_uses.f a0_0 a0_1 a0_2).bind fun t361 => (if t361 = true then ((impl_in.f a0_1 0 2).bind fun t362 => (impl_Do_formed.j0 k t362 a0_0 a0_1 a0_2)) else (impl_Do_formed.j0 k false a0_0 a0_1 a0_2)))) = some r := h
 clear h
 have HC2 := am_ H
 clear H
 go_enter Try.func116, Try.ntmps116
 go_upto_region 1 with (first | ((with_reducible refine gate_dst (N := 1) rfl ?_); refine box_event ?hg (N := 1) ?hd (cs := #[.int .i64 a0_0, .int .i64 a0_1, .int .i64 a0_2]) (t := 85) ?hr ?_; (case hd => rfl); (case hg => rfl); (case hr => first | (go_simp; done) | (go_simp; rfl)); intro gb360 hg w3 hbox hb; have n0_ := am_ (below_step z116_3 hb); have n1_ := am_ (hbox); have n2_ := am_ (by rw [hg]; exact (below_size z116_3) : w.heap.size ≤ gb360); have n3_ := am_ (by rw [hg]; exact (below_size z116_3) : w.heap.size ≤ gb360); clear HB; have HB := n0_; have BK360 := n1_; have GW360 := n2_; have GE360 := n3_; clear n0_ n1_ n2_ n3_; clear hb hbox hg))
 (try simp only [Act.put, List.setIfInBounds_toArray, List.set_cons_zero, List.set_cons_succ])
 go_cut [3] (fun v3 wc => ∃ (kq : Nat) (x3_1 : Bool), v3 = .bool x3_1 ∧ Aside0 (impl_Do_formed.j0 kq x3_1 a0_0 a0_1 a0_2 = some r) ∧ Aside0 (kq ≤ k) ∧ Aside0 (wc.heap[gb360]? = some (.cells #[.int .i64 a0_0, .int .i64 a0_1, .int .i64 a0_2] 85 (0, 0))) ∧ Aside0 (Below w.heap.size w wc))
 case first =>
  have H := HC2.out
  clear HC2
  by_cases c4 : a0_1 = 0
  ·rw [if_pos c4] at H
   have c4b0 : (a0_1 == 0) = true := beq_iff_eq.mpr c4
   have c4b1 : (a0_1 != 0) = false := bne_eq_false_iff_eq.mpr c4
   clear c4
   (first | rw [c4b0] | (simp only [i64_w, i32_w]; rw [c4b0]) | skip)
   have H' := am_ H
   clear H
   have hcz5_0 : w3.cell? ⟨gb360, 0, none⟩ = some (.int .i64 a0_0) := (blk_cell BK360.out 0).trans rfl
   have hcz5_1 : w3.cell? ⟨gb360, 1, none⟩ = some (.int .i64 a0_1) := (blk_cell BK360.out 1).trans rfl
   have hcz5_2 : w3.cell? ⟨gb360, 2, none⟩ = some (.int .i64 a0_2) := (blk_cell BK360.out 2).trans rfl
   have hfz5_0 := blk_frozen BK360.out 0
   have hfz5_1 := blk_frozen BK360.out 1
   have hfz5_2 := blk_frozen BK360.out 2
   go_wp2
   go_meet
   case rel => exact ⟨_, (true), z116_1, H', ⟨by first | omega | exact Nat.le_refl _⟩, ⟨bu BK360.out⟩, ⟨z116_4⟩⟩
  ·rw [if_neg c4] at H
   have c4b0 : (a0_1 == 0) = false := beq_eq_false_iff_ne.mpr c4
   have c4b1 : (a0_1 != 0) = true := bne_iff_ne.mpr c4
   (first | rw [c4b0] | (simp only [i64_w, i32_w]; rw [c4b0]) | skip)
   replace H := Option.bind_eq_some_iff.mp H
   obtain ⟨t361, A60, H⟩ := H
   replace H : (if t361 = true then ((impl_in.f a0_1 0 2).bind fun t362 => (impl_Do_formed.j0 k t362 a0_0 a0_1 a0_2)) else (impl_Do_formed.j0 k false a0_0 a0_1 a0_2)) = some r := H
   have A6 := am_ A60
   clear A60
   by_cases c7 : t361 = true
   ·subst c7
    have H1 : ((impl_in.f a0_1 0 2).bind fun t362 => (impl_Do_formed.j0 k t362 a0_0 a0_1 a0_2)) = some r := by rw [if_pos rfl] at H; exact H
    clear H
    have H := H1
    clear H1
    replace H := Option.bind_eq_some_iff.mp H
    obtain ⟨t362, A80, H⟩ := H
    replace H : (impl_Do_formed.j0 k t362 a0_0 a0_1 a0_2) = some r := H
    have A8 := am_ A80
    clear A80
    have H' := am_ H
    clear H
    have hcz9_0 : w3.cell? ⟨gb360, 0, none⟩ = some (.int .i64 a0_0) := (blk_cell BK360.out 0).trans rfl
    have hcz9_1 : w3.cell? ⟨gb360, 1, none⟩ = some (.int .i64 a0_1) := (blk_cell BK360.out 1).trans rfl
    have hcz9_2 : w3.cell? ⟨gb360, 2, none⟩ = some (.int .i64 a0_2) := (blk_cell BK360.out 2).trans rfl
    have hfz9_0 := blk_frozen BK360.out 0
    have hfz9_1 := blk_frozen BK360.out 1
    have hfz9_2 := blk_frozen BK360.out 2
    go_wp2_with (first | (go_at_call 78; (with_reducible refine (impl_Do_uses.calls a0_0 a0_1 a0_2 true _ A6.out).mono ?_); rintro e w10 ⟨rfl, hb⟩; have n0_ := am_ (blk_below (bu BK360.out) hb); have n1_ := am_ (below_step z116_4 hb); clear BK360 HB; have BK360 := n0_; have HB := n1_; clear n0_ n1_; (try clear hb); (try clear hb2); (try clear hk); (try clear hi); have hcz11_0 : w10.cell? ⟨gb360, 0, none⟩ = some (.int .i64 a0_0) := (blk_cell BK360.out 0).trans rfl; have hcz11_1 : w10.cell? ⟨gb360, 1, none⟩ = some (.int .i64 a0_1) := (blk_cell BK360.out 1).trans rfl; have hcz11_2 : w10.cell? ⟨gb360, 2, none⟩ = some (.int .i64 a0_2) := (blk_cell BK360.out 2).trans rfl; have hfz11_0 := blk_frozen BK360.out 0; have hfz11_1 := blk_frozen BK360.out 1; have hfz11_2 := blk_frozen BK360.out 2) | (go_at_call 66; (with_reducible refine (impl_in.calls a0_1 0 2 t362 _ A8.out).mono ?_); rintro e w' ⟨rfl, ⟨nd, rfl⟩⟩))
    go_meet
    case rel => exact ⟨_, (t362), z116_1, H', ⟨by first | omega | exact Nat.le_refl _⟩, ⟨bu BK360.out⟩, ⟨z116_4⟩⟩
   ·replace c7 := Bool.eq_false_iff.mpr c7
    subst c7
    have H1 : (impl_Do_formed.j0 k false a0_0 a0_1 a0_2) = some r := by rw [if_neg (show ¬ (false = true) by decide)] at H; exact H
    clear H
    have H := H1
    clear H1
    have H' := am_ H
    clear H
    have hcz12_0 : w3.cell? ⟨gb360, 0, none⟩ = some (.int .i64 a0_0) := (blk_cell BK360.out 0).trans rfl
    have hcz12_1 : w3.cell? ⟨gb360, 1, none⟩ = some (.int .i64 a0_1) := (blk_cell BK360.out 1).trans rfl
    have hcz12_2 : w3.cell? ⟨gb360, 2, none⟩ = some (.int .i64 a0_2) := (blk_cell BK360.out 2).trans rfl
    have hfz12_0 := blk_frozen BK360.out 0
    have hfz12_1 := blk_frozen BK360.out 1
    have hfz12_2 := blk_frozen BK360.out 2
    go_wp2_with (first | (go_at_call 78; (with_reducible refine (impl_Do_uses.calls a0_0 a0_1 a0_2 false _ A6.out).mono ?_); rintro e w13 ⟨rfl, hb⟩; have n0_ := am_ (blk_below (bu BK360.out) hb); have n1_ := am_ (below_step z116_4 hb); clear BK360 HB; have BK360 := n0_; have HB := n1_; clear n0_ n1_; (try clear hb); (try clear hb2); (try clear hk); (try clear hi)))
    go_meet
    case rel => exact ⟨_, (false), z116_1, H', ⟨by first | omega | exact Nat.le_refl _⟩, ⟨bu BK360.out⟩, ⟨z116_4⟩⟩
 case rest =>
  clear HC2
  obtain ⟨kq, x3_1, rfl, HA, HJ1, BK360, HB⟩ := hcut
  cases kq with
  | zero => exact absurd HA.out (by simp [impl_Do_formed.j0])
  | succ kj1 =>
   have H := HA.out
   clear HA
   simp only [impl_Do_formed.j0] at H
   replace H := Option.bind_eq_some_iff.mp H
   obtain ⟨t363, A140, H⟩ := H
   replace H : (if t363 = true then ((impl_in.f a0_2 1 3).bind fun t364 => ((impl_in.f a0_0 1 9).bind fun t365 => (if t365 = true then (if x3_1 = true then (some t364) else (some false)) else (some false)))) else ((impl_in.f a0_0 1 9).bind fun t366 => (if t366 = true then (if x3_1 = true then (some (a0_2 == 0)) else (some false)) else (some false)))) = some r := H
   have A14 := am_ A140
   clear A140
   by_cases c15 : t363 = true
   ·subst c15
    have H1 : ((impl_in.f a0_2 1 3).bind fun t364 => ((impl_in.f a0_0 1 9).bind fun t365 => (if t365 = true then (if x3_1 = true then (some t364) else (some false)) else (some false)))) = some r := by rw [if_pos rfl] at H; exact H
    clear H
    have H := H1
    clear H1
    replace H := Option.bind_eq_some_iff.mp H
    obtain ⟨t364, A160, H⟩ := H
    replace H : ((impl_in.f a0_0 1 9).bind fun t365 => (if t365 = true then (if x3_1 = true then (some t364) else (some false)) else (some false))) = some r := H
    have A16 := am_ A160
    clear A160
    replace H := Option.bind_eq_some_iff.mp H
    obtain ⟨t365, A170, H⟩ := H
    replace H : (if t365 = true then (if x3_1 = true then (some t364) else (some false)) else (some false)) = some r := H
    have A17 := am_ A170
    clear A170
    by_cases c18 : t365 = true
    ·subst c18
     have H1 : (if x3_1 = true then (some t364) else (some false)) = some r := by rw [if_pos rfl] at H; exact H
     clear H
     have H := H1
     clear H1
     by_cases c19 : x3_1 = true
     ·subst c19
      have H1 : (some t364) = some r := by rw [if_pos rfl] at H; exact H
      clear H
      have H := H1
      clear H1
      obtain rfl := Option.some.inj H
      have hcz20_0 : wc.cell? ⟨gb360, 0, none⟩ = some (.int .i64 a0_0) := (blk_cell BK360.out 0).trans rfl
      have hcz20_1 : wc.cell? ⟨gb360, 1, none⟩ = some (.int .i64 a0_1) := (blk_cell BK360.out 1).trans rfl
      have hcz20_2 : wc.cell? ⟨gb360, 2, none⟩ = some (.int .i64 a0_2) := (blk_cell BK360.out 2).trans rfl
      have hfz20_0 := blk_frozen BK360.out 0
      have hfz20_1 := blk_frozen BK360.out 1
      have hfz20_2 := blk_frozen BK360.out 2
      go_wp2_with (first | ((with_reducible refine gate_callee (f := 131) rfl ?_); refine goesL_ (some 21) rfl rfl Try.func131 (by kernel_rfl) rfl #[.agg #[.int .i64 a0_0, .int .i64 a0_1, .int .i64 a0_2]] rfl (by (try simp only [List.map_toArray, List.map_cons, List.map_nil]); first | done | rfl | (simp only [List.length_drop, List.length_take]; rfl)) ?_; (with_reducible refine (impl_Do_valued.calls a0_0 a0_1 a0_2 true _ A14.out).mono ?_); rintro e w21 ⟨rfl, hb⟩; refine ⟨_, rfl, ?_⟩; have n0_ := am_ (blk_below (bu BK360.out) hb); have n1_ := am_ (below_step z116_4 hb); clear BK360 HB; have BK360 := n0_; have HB := n1_; clear n0_ n1_; (try clear hb); (try clear hb2); (try clear hk); (try clear hi); have hcz22_0 : w21.cell? ⟨gb360, 0, none⟩ = some (.int .i64 a0_0) := (blk_cell BK360.out 0).trans rfl; have hcz22_1 : w21.cell? ⟨gb360, 1, none⟩ = some (.int .i64 a0_1) := (blk_cell BK360.out 1).trans rfl; have hcz22_2 : w21.cell? ⟨gb360, 2, none⟩ = some (.int .i64 a0_2) := (blk_cell BK360.out 2).trans rfl; have hfz22_0 := blk_frozen BK360.out 0; have hfz22_1 := blk_frozen BK360.out 1; have hfz22_2 := blk_frozen BK360.out 2) | ((with_reducible refine gate_callee (f := 66) rfl ?_); refine goesL_ (some 24) rfl rfl Try.func66 (by kernel_rfl) rfl #[.int .i64 a0_2, .int .i64 1, .int .i64 3] rfl (by (try simp only [List.map_toArray, List.map_cons, List.map_nil]); first | done | rfl | (simp only [List.length_drop, List.length_take]; rfl)) ?_; (with_reducible refine (impl_in.calls a0_2 1 3 t364 _ A16.out).mono ?_); rintro e w' ⟨rfl, ⟨nd, rfl⟩⟩; refine ⟨_, rfl, ?_⟩) | ((with_reducible refine gate_callee (f := 66) rfl ?_); refine goesL_ (some 27) rfl rfl Try.func66 (by kernel_rfl) rfl #[.int .i64 a0_0, .int .i64 1, .int .i64 9] rfl (by (try simp only [List.map_toArray, List.map_cons, List.map_nil]); first | done | rfl | (simp only [List.length_drop, List.length_take]; rfl)) ?_; (with_reducible refine (impl_in.calls a0_0 1 9 true _ A17.out).mono ?_); rintro e w' ⟨rfl, ⟨nd, rfl⟩⟩; refine ⟨_, rfl, ?_⟩))
      go_ret
      exact ⟨z116_2, z116_4⟩
     ·replace c19 := Bool.eq_false_iff.mpr c19
      subst c19
      have H1 : (some false) = some r := by rw [if_neg (show ¬ (false = true) by decide)] at H; exact H
      clear H
      have H := H1
      clear H1
      obtain rfl := Option.some.inj H
      have hcz23_0 : wc.cell? ⟨gb360, 0, none⟩ = some (.int .i64 a0_0) := (blk_cell BK360.out 0).trans rfl
      have hcz23_1 : wc.cell? ⟨gb360, 1, none⟩ = some (.int .i64 a0_1) := (blk_cell BK360.out 1).trans rfl
      have hcz23_2 : wc.cell? ⟨gb360, 2, none⟩ = some (.int .i64 a0_2) := (blk_cell BK360.out 2).trans rfl
      have hfz23_0 := blk_frozen BK360.out 0
      have hfz23_1 := blk_frozen BK360.out 1
      have hfz23_2 := blk_frozen BK360.out 2
      go_wp2_with (first | ((with_reducible refine gate_callee (f := 131) rfl ?_); refine goesL_ (some 21) rfl rfl Try.func131 (by kernel_rfl) rfl #[.agg #[.int .i64 a0_0, .int .i64 a0_1, .int .i64 a0_2]] rfl (by (try simp only [List.map_toArray, List.map_cons, List.map_nil]); first | done | rfl | (simp only [List.length_drop, List.length_take]; rfl)) ?_; (with_reducible refine (impl_Do_valued.calls a0_0 a0_1 a0_2 true _ A14.out).mono ?_); rintro e w24 ⟨rfl, hb⟩; refine ⟨_, rfl, ?_⟩; have n0_ := am_ (blk_below (bu BK360.out) hb); have n1_ := am_ (below_step z116_4 hb); clear BK360 HB; have BK360 := n0_; have HB := n1_; clear n0_ n1_; (try clear hb); (try clear hb2); (try clear hk); (try clear hi); have hcz25_0 : w24.cell? ⟨gb360, 0, none⟩ = some (.int .i64 a0_0) := (blk_cell BK360.out 0).trans rfl; have hcz25_1 : w24.cell? ⟨gb360, 1, none⟩ = some (.int .i64 a0_1) := (blk_cell BK360.out 1).trans rfl; have hcz25_2 : w24.cell? ⟨gb360, 2, none⟩ = some (.int .i64 a0_2) := (blk_cell BK360.out 2).trans rfl; have hfz25_0 := blk_frozen BK360.out 0; have hfz25_1 := blk_frozen BK360.out 1; have hfz25_2 := blk_frozen BK360.out 2) | ((with_reducible refine gate_callee (f := 66) rfl ?_); refine goesL_ (some 24) rfl rfl Try.func66 (by kernel_rfl) rfl #[.int .i64 a0_2, .int .i64 1, .int .i64 3] rfl (by (try simp only [List.map_toArray, List.map_cons, List.map_nil]); first | done | rfl | (simp only [List.length_drop, List.length_take]; rfl)) ?_; (with_reducible refine (impl_in.calls a0_2 1 3 t364 _ A16.out).mono ?_); rintro e w' ⟨rfl, ⟨nd, rfl⟩⟩; refine ⟨_, rfl, ?_⟩) | ((with_reducible refine gate_callee (f := 66) rfl ?_); refine goesL_ (some 27) rfl rfl Try.func66 (by kernel_rfl) rfl #[.int .i64 a0_0, .int .i64 1, .int .i64 9] rfl (by (try simp only [List.map_toArray, List.map_cons, List.map_nil]); first | done | rfl | (simp only [List.length_drop, List.length_take]; rfl)) ?_; (with_reducible refine (impl_in.calls a0_0 1 9 true _ A17.out).mono ?_); rintro e w' ⟨rfl, ⟨nd, rfl⟩⟩; refine ⟨_, rfl, ?_⟩))
      go_ret
      exact ⟨z116_2, z116_4⟩
    ·replace c18 := Bool.eq_false_iff.mpr c18
     subst c18
     have H1 : (some false) = some r := by rw [if_neg (show ¬ (false = true) by decide)] at H; exact H
     clear H
     have H := H1
     clear H1
     obtain rfl := Option.some.inj H
     have hcz26_0 : wc.cell? ⟨gb360, 0, none⟩ = some (.int .i64 a0_0) := (blk_cell BK360.out 0).trans rfl
     have hcz26_1 : wc.cell? ⟨gb360, 1, none⟩ = some (.int .i64 a0_1) := (blk_cell BK360.out 1).trans rfl
     have hcz26_2 : wc.cell? ⟨gb360, 2, none⟩ = some (.int .i64 a0_2) := (blk_cell BK360.out 2).trans rfl
     have hfz26_0 := blk_frozen BK360.out 0
     have hfz26_1 := blk_frozen BK360.out 1
     have hfz26_2 := blk_frozen BK360.out 2
     go_wp2_with (first | ((with_reducible refine gate_callee (f := 131) rfl ?_); refine goesL_ (some 21) rfl rfl Try.func131 (by kernel_rfl) rfl #[.agg #[.int .i64 a0_0, .int .i64 a0_1, .int .i64 a0_2]] rfl (by (try simp only [List.map_toArray, List.map_cons, List.map_nil]); first | done | rfl | (simp only [List.length_drop, List.length_take]; rfl)) ?_; (with_reducible refine (impl_Do_valued.calls a0_0 a0_1 a0_2 true _ A14.out).mono ?_); rintro e w27 ⟨rfl, hb⟩; refine ⟨_, rfl, ?_⟩; have n0_ := am_ (blk_below (bu BK360.out) hb); have n1_ := am_ (below_step z116_4 hb); clear BK360 HB; have BK360 := n0_; have HB := n1_; clear n0_ n1_; (try clear hb); (try clear hb2); (try clear hk); (try clear hi); have hcz28_0 : w27.cell? ⟨gb360, 0, none⟩ = some (.int .i64 a0_0) := (blk_cell BK360.out 0).trans rfl; have hcz28_1 : w27.cell? ⟨gb360, 1, none⟩ = some (.int .i64 a0_1) := (blk_cell BK360.out 1).trans rfl; have hcz28_2 : w27.cell? ⟨gb360, 2, none⟩ = some (.int .i64 a0_2) := (blk_cell BK360.out 2).trans rfl; have hfz28_0 := blk_frozen BK360.out 0; have hfz28_1 := blk_frozen BK360.out 1; have hfz28_2 := blk_frozen BK360.out 2) | ((with_reducible refine gate_callee (f := 66) rfl ?_); refine goesL_ (some 24) rfl rfl Try.func66 (by kernel_rfl) rfl #[.int .i64 a0_2, .int .i64 1, .int .i64 3] rfl (by (try simp only [List.map_toArray, List.map_cons, List.map_nil]); first | done | rfl | (simp only [List.length_drop, List.length_take]; rfl)) ?_; (with_reducible refine (impl_in.calls a0_2 1 3 t364 _ A16.out).mono ?_); rintro e w' ⟨rfl, ⟨nd, rfl⟩⟩; refine ⟨_, rfl, ?_⟩) | ((with_reducible refine gate_callee (f := 66) rfl ?_); refine goesL_ (some 27) rfl rfl Try.func66 (by kernel_rfl) rfl #[.int .i64 a0_0, .int .i64 1, .int .i64 9] rfl (by (try simp only [List.map_toArray, List.map_cons, List.map_nil]); first | done | rfl | (simp only [List.length_drop, List.length_take]; rfl)) ?_; (with_reducible refine (impl_in.calls a0_0 1 9 false _ A17.out).mono ?_); rintro e w' ⟨rfl, ⟨nd, rfl⟩⟩; refine ⟨_, rfl, ?_⟩))
     go_ret
     exact ⟨z116_2, z116_4⟩
   ·replace c15 := Bool.eq_false_iff.mpr c15
    subst c15
    have H1 : ((impl_in.f a0_0 1 9).bind fun t366 => (if t366 = true then (if x3_1 = true then (some (a0_2 == 0)) else (some false)) else (some false))) = some r := by rw [if_neg (show ¬ (false = true) by decide)] at H; exact H
    clear H
    have H := H1
    clear H1
    replace H := Option.bind_eq_some_iff.mp H
    obtain ⟨t366, A290, H⟩ := H
    replace H : (if t366 = true then (if x3_1 = true then (some (a0_2 == 0)) else (some false)) else (some false)) = some r := H
    have A29 := am_ A290
    clear A290
    by_cases c30 : t366 = true
    ·subst c30
     have H1 : (if x3_1 = true then (some (a0_2 == 0)) else (some false)) = some r := by rw [if_pos rfl] at H; exact H
     clear H
     have H := H1
     clear H1
     by_cases c31 : x3_1 = true
     ·subst c31
      have H1 : (some (a0_2 == 0)) = some r := by rw [if_pos rfl] at H; exact H
      clear H
      have H := H1
      clear H1
      obtain rfl := Option.some.inj H
      have hcz32_0 : wc.cell? ⟨gb360, 0, none⟩ = some (.int .i64 a0_0) := (blk_cell BK360.out 0).trans rfl
      have hcz32_1 : wc.cell? ⟨gb360, 1, none⟩ = some (.int .i64 a0_1) := (blk_cell BK360.out 1).trans rfl
      have hcz32_2 : wc.cell? ⟨gb360, 2, none⟩ = some (.int .i64 a0_2) := (blk_cell BK360.out 2).trans rfl
      have hfz32_0 := blk_frozen BK360.out 0
      have hfz32_1 := blk_frozen BK360.out 1
      have hfz32_2 := blk_frozen BK360.out 2
      go_wp2_with (first | ((with_reducible refine gate_callee (f := 131) rfl ?_); refine goesL_ (some 21) rfl rfl Try.func131 (by kernel_rfl) rfl #[.agg #[.int .i64 a0_0, .int .i64 a0_1, .int .i64 a0_2]] rfl (by (try simp only [List.map_toArray, List.map_cons, List.map_nil]); first | done | rfl | (simp only [List.length_drop, List.length_take]; rfl)) ?_; (with_reducible refine (impl_Do_valued.calls a0_0 a0_1 a0_2 false _ A14.out).mono ?_); rintro e w33 ⟨rfl, hb⟩; refine ⟨_, rfl, ?_⟩; have n0_ := am_ (blk_below (bu BK360.out) hb); have n1_ := am_ (below_step z116_4 hb); clear BK360 HB; have BK360 := n0_; have HB := n1_; clear n0_ n1_; (try clear hb); (try clear hb2); (try clear hk); (try clear hi); have hcz34_0 : w33.cell? ⟨gb360, 0, none⟩ = some (.int .i64 a0_0) := (blk_cell BK360.out 0).trans rfl; have hcz34_1 : w33.cell? ⟨gb360, 1, none⟩ = some (.int .i64 a0_1) := (blk_cell BK360.out 1).trans rfl; have hcz34_2 : w33.cell? ⟨gb360, 2, none⟩ = some (.int .i64 a0_2) := (blk_cell BK360.out 2).trans rfl; have hfz34_0 := blk_frozen BK360.out 0; have hfz34_1 := blk_frozen BK360.out 1; have hfz34_2 := blk_frozen BK360.out 2) | ((with_reducible refine gate_callee (f := 66) rfl ?_); refine goesL_ (some 27) rfl rfl Try.func66 (by kernel_rfl) rfl #[.int .i64 a0_0, .int .i64 1, .int .i64 9] rfl (by (try simp only [List.map_toArray, List.map_cons, List.map_nil]); first | done | rfl | (simp only [List.length_drop, List.length_take]; rfl)) ?_; (with_reducible refine (impl_in.calls a0_0 1 9 true _ A29.out).mono ?_); rintro e w' ⟨rfl, ⟨nd, rfl⟩⟩; refine ⟨_, rfl, ?_⟩))
      go_ret
      exact ⟨z116_2, z116_4⟩
     ·replace c31 := Bool.eq_false_iff.mpr c31
      subst c31
      have H1 : (some false) = some r := by rw [if_neg (show ¬ (false = true) by decide)] at H; exact H
      clear H
      have H := H1
      clear H1
      obtain rfl := Option.some.inj H
      have hcz35_0 : wc.cell? ⟨gb360, 0, none⟩ = some (.int .i64 a0_0) := (blk_cell BK360.out 0).trans rfl
      have hcz35_1 : wc.cell? ⟨gb360, 1, none⟩ = some (.int .i64 a0_1) := (blk_cell BK360.out 1).trans rfl
      have hcz35_2 : wc.cell? ⟨gb360, 2, none⟩ = some (.int .i64 a0_2) := (blk_cell BK360.out 2).trans rfl
      have hfz35_0 := blk_frozen BK360.out 0
      have hfz35_1 := blk_frozen BK360.out 1
      have hfz35_2 := blk_frozen BK360.out 2
      go_wp2_with (first | ((with_reducible refine gate_callee (f := 131) rfl ?_); refine goesL_ (some 21) rfl rfl Try.func131 (by kernel_rfl) rfl #[.agg #[.int .i64 a0_0, .int .i64 a0_1, .int .i64 a0_2]] rfl (by (try simp only [List.map_toArray, List.map_cons, List.map_nil]); first | done | rfl | (simp only [List.length_drop, List.length_take]; rfl)) ?_; (with_reducible refine (impl_Do_valued.calls a0_0 a0_1 a0_2 false _ A14.out).mono ?_); rintro e w36 ⟨rfl, hb⟩; refine ⟨_, rfl, ?_⟩; have n0_ := am_ (blk_below (bu BK360.out) hb); have n1_ := am_ (below_step z116_4 hb); clear BK360 HB; have BK360 := n0_; have HB := n1_; clear n0_ n1_; (try clear hb); (try clear hb2); (try clear hk); (try clear hi); have hcz37_0 : w36.cell? ⟨gb360, 0, none⟩ = some (.int .i64 a0_0) := (blk_cell BK360.out 0).trans rfl; have hcz37_1 : w36.cell? ⟨gb360, 1, none⟩ = some (.int .i64 a0_1) := (blk_cell BK360.out 1).trans rfl; have hcz37_2 : w36.cell? ⟨gb360, 2, none⟩ = some (.int .i64 a0_2) := (blk_cell BK360.out 2).trans rfl; have hfz37_0 := blk_frozen BK360.out 0; have hfz37_1 := blk_frozen BK360.out 1; have hfz37_2 := blk_frozen BK360.out 2) | ((with_reducible refine gate_callee (f := 66) rfl ?_); refine goesL_ (some 27) rfl rfl Try.func66 (by kernel_rfl) rfl #[.int .i64 a0_0, .int .i64 1, .int .i64 9] rfl (by (try simp only [List.map_toArray, List.map_cons, List.map_nil]); first | done | rfl | (simp only [List.length_drop, List.length_take]; rfl)) ?_; (with_reducible refine (impl_in.calls a0_0 1 9 true _ A29.out).mono ?_); rintro e w' ⟨rfl, ⟨nd, rfl⟩⟩; refine ⟨_, rfl, ?_⟩))
      go_ret
      exact ⟨z116_2, z116_4⟩
    ·replace c30 := Bool.eq_false_iff.mpr c30
     subst c30
     have H1 : (some false) = some r := by rw [if_neg (show ¬ (false = true) by decide)] at H; exact H
     clear H
     have H := H1
     clear H1
     obtain rfl := Option.some.inj H
     have hcz38_0 : wc.cell? ⟨gb360, 0, none⟩ = some (.int .i64 a0_0) := (blk_cell BK360.out 0).trans rfl
     have hcz38_1 : wc.cell? ⟨gb360, 1, none⟩ = some (.int .i64 a0_1) := (blk_cell BK360.out 1).trans rfl
     have hcz38_2 : wc.cell? ⟨gb360, 2, none⟩ = some (.int .i64 a0_2) := (blk_cell BK360.out 2).trans rfl
     have hfz38_0 := blk_frozen BK360.out 0
     have hfz38_1 := blk_frozen BK360.out 1
     have hfz38_2 := blk_frozen BK360.out 2
     go_wp2_with (first | ((with_reducible refine gate_callee (f := 131) rfl ?_); refine goesL_ (some 21) rfl rfl Try.func131 (by kernel_rfl) rfl #[.agg #[.int .i64 a0_0, .int .i64 a0_1, .int .i64 a0_2]] rfl (by (try simp only [List.map_toArray, List.map_cons, List.map_nil]); first | done | rfl | (simp only [List.length_drop, List.length_take]; rfl)) ?_; (with_reducible refine (impl_Do_valued.calls a0_0 a0_1 a0_2 false _ A14.out).mono ?_); rintro e w39 ⟨rfl, hb⟩; refine ⟨_, rfl, ?_⟩; have n0_ := am_ (blk_below (bu BK360.out) hb); have n1_ := am_ (below_step z116_4 hb); clear BK360 HB; have BK360 := n0_; have HB := n1_; clear n0_ n1_; (try clear hb); (try clear hb2); (try clear hk); (try clear hi); have hcz40_0 : w39.cell? ⟨gb360, 0, none⟩ = some (.int .i64 a0_0) := (blk_cell BK360.out 0).trans rfl; have hcz40_1 : w39.cell? ⟨gb360, 1, none⟩ = some (.int .i64 a0_1) := (blk_cell BK360.out 1).trans rfl; have hcz40_2 : w39.cell? ⟨gb360, 2, none⟩ = some (.int .i64 a0_2) := (blk_cell BK360.out 2).trans rfl; have hfz40_0 := blk_frozen BK360.out 0; have hfz40_1 := blk_frozen BK360.out 1; have hfz40_2 := blk_frozen BK360.out 2) | ((with_reducible refine gate_callee (f := 66) rfl ?_); refine goesL_ (some 27) rfl rfl Try.func66 (by kernel_rfl) rfl #[.int .i64 a0_0, .int .i64 1, .int .i64 9] rfl (by (try simp only [List.map_toArray, List.map_cons, List.map_nil]); first | done | rfl | (simp only [List.length_drop, List.length_take]; rfl)) ?_; (with_reducible refine (impl_in.calls a0_0 1 9 false _ A29.out).mono ?_); rintro e w' ⟨rfl, ⟨nd, rfl⟩⟩; refine ⟨_, rfl, ?_⟩))
     go_ret
     exact ⟨z116_2, z116_4⟩

end Go.Proofs.Ytefkbmhkhpekjaa.PB

namespace Go.Proofs.Ytefkbmhkhpekjaa.PB
open Go.RowKit Go.Proofs.YtefkbmhkhpekjaaW.PrintWords Go.Proofs.YtefkbmhkhpekjaaW.PrintLast Go.Proofs.YtefkbmhkhpekjaaW.PrintMore
attribute [local go_sem] max2_int min2_int max_two min_two max_three min_three max_four min_four   -- for this text's walks alone
open Go.Proofs.YtefkbmhkhpekjaaMine
set_option linter.unusedVariables false
set_option linter.unusedSimpArgs false

theorem z77_1 {p : Prop} (h : p := by first | rfl | (simp; done) | (simp [*]; done)) : p := h
theorem z77_2 {p : Prop} (h : p := by first | rfl | (simp [errW_none, errW_some] <;> rfl) | (simp [*, errW_none, errW_some] <;> rfl)) : p := h
theorem z77_3 {p : Prop} (h : p := by repeat (first | (with_reducible first | exact HB.out | apply below_alloc | apply pw_below_drewN | apply below_drew1) | exact HB.out)) : p := h
theorem z77_4 {p : Prop} (h : p := by repeat (first | (with_reducible first | exact HB.out | apply below_alloc | apply pw_below_drewN | apply below_drew1 | refine below_set ?_ GE368.out) | exact HB.out)) : p := h
theorem z77_5 {p : Prop} (h : p := by (with_reducible repeat (first | refine blk_drewN ?_ _ | refine blk_drew ?_ | refine blk_alloc ?_ _)); refine blk_put (cs := #[.int .i64 ((rd_T85 l0 x10_1).f0), .int .i64 ((rd_T85 l0 x10_1).f1), .int .i64 0]) ?_ 2 _ rfl; (with_reducible repeat (first | refine blk_drewN ?_ _ | refine blk_drew ?_ | refine blk_alloc ?_ _)); refine blk_put (cs := #[.int .i64 ((rd_T85 l0 x10_1).f0), .int .i64 0, .int .i64 0]) ?_ 1 _ rfl; (with_reducible repeat (first | refine blk_drewN ?_ _ | refine blk_drew ?_ | refine blk_alloc ?_ _)); refine blk_put (cs := #[.int .i64 0, .int .i64 0, .int .i64 0]) ?_ 0 _ rfl; (with_reducible repeat (first | refine blk_drewN ?_ _ | refine blk_drew ?_ | refine blk_alloc ?_ _)); exact BK368.out) : p := h
/-! ### impl_threadOk: function 77 -/
mutual
def impl_threadOk.l0 : Nat → List (S85) → Bool → Bool → List (S85) → Int → Int → Option (Bool)
  | 0, _, _, _, _, _, _ => none
  | k + 1, x0, x3, x4, x8, x9, x10 => if x10 < x9 then (if 0 ≤ x10 then (if x10 < (x8.length : Int) then (if ((rd_T85 x8 x10).f0) = 3 then (if x3 = true then (if x4 = true then (if ((rd_T85 x8 x10).f0) = 7 then (impl_threadOk.j1 k x0 x3 x4 true x8 x9 x10 ((rd_T85 x8 x10).f0) ((rd_T85 x8 x10).f1) ((rd_T85 x8 x10).f2)) else (if ((rd_T85 x8 x10).f0) = 9 then (impl_threadOk.j1 k x0 x3 x4 true x8 x9 x10 ((rd_T85 x8 x10).f0) ((rd_T85 x8 x10).f1) ((rd_T85 x8 x10).f2)) else (impl_threadOk.j1 k x0 x3 x4 false x8 x9 x10 ((rd_T85 x8 x10).f0) ((rd_T85 x8 x10).f1) ((rd_T85 x8 x10).f2)))) else (impl_threadOk.j1 k x0 x3 x4 (((rd_T85 x8 x10).f0) == 8) x8 x9 x10 ((rd_T85 x8 x10).f0) ((rd_T85 x8 x10).f1) ((rd_T85 x8 x10).f2))) else (impl_threadOk.j1 k x0 x3 x4 true x8 x9 x10 ((rd_T85 x8 x10).f0) ((rd_T85 x8 x10).f1) ((rd_T85 x8 x10).f2))) else (if x4 = true then (if ((rd_T85 x8 x10).f0) = 7 then (impl_threadOk.j1 k x0 x3 x4 true x8 x9 x10 ((rd_T85 x8 x10).f0) ((rd_T85 x8 x10).f1) ((rd_T85 x8 x10).f2)) else (if ((rd_T85 x8 x10).f0) = 9 then (impl_threadOk.j1 k x0 x3 x4 true x8 x9 x10 ((rd_T85 x8 x10).f0) ((rd_T85 x8 x10).f1) ((rd_T85 x8 x10).f2)) else (impl_threadOk.j1 k x0 x3 x4 false x8 x9 x10 ((rd_T85 x8 x10).f0) ((rd_T85 x8 x10).f1) ((rd_T85 x8 x10).f2)))) else (impl_threadOk.j1 k x0 x3 x4 (((rd_T85 x8 x10).f0) == 8) x8 x9 x10 ((rd_T85 x8 x10).f0) ((rd_T85 x8 x10).f1) ((rd_T85 x8 x10).f2)))) else (none)) else (none)) else (if x4 = true then (some false) else (some (decide ((x0.length : Int) ≤ 7))))
def impl_threadOk.j1 : Nat → List (S85) → Bool → Bool → Bool → List (S85) → Int → Int → Int → Int → Int → Option (Bool)
  | 0, _, _, _, _, _, _, _, _, _, _ => none
  | k + 1, x0, x3, x4, x7, x8, x9, x10, x369000, x369001, x369002 => (impl_Do_formed.f k x369000 x369001 x369002).bind fun t369 => (if t369 = true then (if x7 = true then (some false) else (if x3 = true then (if x369000 = 7 then (impl_threadOk.l0 k x0 true true x8 x9 (wrap64 (x10 + 1))) else (if x4 = true then (impl_threadOk.l0 k x0 true (x369000 != 8) x8 x9 (wrap64 (x10 + 1))) else (impl_threadOk.l0 k x0 true false x8 x9 (wrap64 (x10 + 1))))) else ((impl_Do_reads.f x369000 x369001 x369002).bind fun t370 => (if x369000 = 7 then (impl_threadOk.l0 k x0 t370 true x8 x9 (wrap64 (x10 + 1))) else (if x4 = true then (impl_threadOk.l0 k x0 t370 (x369000 != 8) x8 x9 (wrap64 (x10 + 1))) else (impl_threadOk.l0 k x0 t370 false x8 x9 (wrap64 (x10 + 1)))))))) else (some false))
end
def impl_threadOk.f (k : Nat) (l0 : List (S85)) : Option (Bool) := impl_threadOk.l0 k l0 false false l0 (l0.length : Int) 0
theorem impl_threadOk.mono_l : ∀ k, (∀ y0 y1 y2 y3 y4 y5, LeO (impl_threadOk.l0 k y0 y1 y2 y3 y4 y5) (impl_threadOk.l0 (k + 1) y0 y1 y2 y3 y4 y5)) ∧ (∀ y0 y1 y2 y3 y4 y5 y6 y7 y8 y9, LeO (impl_threadOk.j1 k y0 y1 y2 y3 y4 y5 y6 y7 y8 y9) (impl_threadOk.j1 (k + 1) y0 y1 y2 y3 y4 y5 y6 y7 y8 y9))
  | 0 => ⟨fun _ _ _ _ _ _ r h => by simp [impl_threadOk.l0] at h, fun _ _ _ _ _ _ _ _ _ _ r h => by simp [impl_threadOk.j1] at h⟩
  | k + 1 => by
    obtain ⟨ih0, ih1⟩ := impl_threadOk.mono_l k
    refine ⟨?_, ?_⟩
    · intro y0 y1 y2 y3 y4 y5
      unfold impl_threadOk.l0
      repeat' first
      | (with_reducible exact ih0 _ _ _ _ _ _)
      | (with_reducible exact ih1 _ _ _ _ _ _ _ _ _ _)
      | (with_reducible exact impl_Do_formed.mono _ _ _ _)
      | (with_reducible exact LeO.refl _)
      | (with_reducible exact LeO.none _)
      | (with_reducible refine LeO.ite ?_ ?_)
      | (with_reducible refine LeO.bind ?_ (fun _ => ?_))
      | exact ih0 _ _ _ _ _ _
      | exact ih1 _ _ _ _ _ _ _ _ _ _
      | exact impl_Do_formed.mono _ _ _ _
      | exact LeO.none _
      | refine LeO.ite ?_ ?_
      | refine LeO.bind ?_ (fun _ => ?_)
    · intro y0 y1 y2 y3 y4 y5 y6 y7 y8 y9
      unfold impl_threadOk.j1
      repeat' first
      | (with_reducible exact ih0 _ _ _ _ _ _)
      | (with_reducible exact ih1 _ _ _ _ _ _ _ _ _ _)
      | (with_reducible exact impl_Do_formed.mono _ _ _ _)
      | (with_reducible exact LeO.refl _)
      | (with_reducible exact LeO.none _)
      | (with_reducible refine LeO.ite ?_ ?_)
      | (with_reducible refine LeO.bind ?_ (fun _ => ?_))
      | exact ih0 _ _ _ _ _ _
      | exact ih1 _ _ _ _ _ _ _ _ _ _
      | exact impl_Do_formed.mono _ _ _ _
      | exact LeO.none _
      | refine LeO.ite ?_ ?_
      | refine LeO.bind ?_ (fun _ => ?_)
theorem impl_threadOk.mono : ∀ a0 k, LeO (impl_threadOk.f k a0) (impl_threadOk.f (k + 1) a0) := by
  intro a0 k
  obtain ⟨ih0, ih1⟩ := impl_threadOk.mono_l k
  unfold impl_threadOk.f
  repeat' first
      | (with_reducible exact ih0 _ _ _ _ _ _)
      | (with_reducible exact ih1 _ _ _ _ _ _ _ _ _ _)
      | (with_reducible exact impl_Do_formed.mono _ _ _ _)
      | (with_reducible exact LeO.refl _)
      | (with_reducible exact LeO.none _)
      | (with_reducible refine LeO.ite ?_ ?_)
      | (with_reducible refine LeO.bind ?_ (fun _ => ?_))
      | exact ih0 _ _ _ _ _ _
      | exact ih1 _ _ _ _ _ _ _ _ _ _
      | exact impl_Do_formed.mono _ _ _ _
      | exact LeO.none _
      | refine LeO.ite ?_ ?_
      | refine LeO.bind ?_ (fun _ => ?_)
set_option maxHeartbeats 8000000 in
set_option maxRecDepth 100000 in
theorem impl_threadOk.calls (k : Nat) (A0 : Option Addr) (c0 : Nat) (l0 : List (S85)) (r : Bool) (w : World) (hr0 : Kd.C k85 w A0 l0.length l0) (hc0 : l0.length ≤ c0) (h : impl_threadOk.f k l0 = some r) :
  Calls Try.prog 77 #[.slice A0 l0.length c0] w fun e w' => e = .returned (.bool r) ∧ Below w.heap.size w w' := by
 have hu85 := Try.underlying85
 have HR0 := am_ hr0
 have HC0 := am_ hc0
 clear hr0 hc0
 have HB := am_ (Below.refl w.heap.size w)
 have H : (impl_threadOk.l0 k l0 false false l0 (l0.length : Int) 0) = some r := h
 clear h
 have H' := am_ H
 clear H
 go_enter Try.func77, Try.ntmps77
 go_wp2
 go_loopg [3, 4, 10] k (fun kq v3 v4 v10 w' => ∃ (x3_1 : Bool) (x4_1 : Bool) (x10_1 : Int), v3 = .bool x3_1 ∧ v4 = .bool x4_1 ∧ v10 = .int .i64 x10_1 ∧ Aside0 (impl_threadOk.l0 kq l0 x3_1 x4_1 l0 (l0.length : Int) x10_1 = some r) ∧ Aside0 (kq ≤ k) ∧ Aside0 (Below w.heap.size w w'))
 case atStart => exact ⟨(false), (false), (0), z77_1, z77_1, z77_1, H', ⟨Nat.le_refl _⟩, ⟨z77_3⟩⟩
 case round =>
  clear H'
  obtain ⟨x3_1, x4_1, x10_1, rfl, rfl, rfl, HA, HK1, HB⟩ := hrel
  cases gk with
  | zero => exact absurd HA.out (by simp [impl_threadOk.l0])
  | succ k1 =>
   have H := HA.out
   clear HA
   simp only [impl_threadOk.l0] at H
   by_cases c2 : x10_1 < (l0.length : Int)
   ·rw [if_pos c2] at H
    have c2b0 : decide (x10_1 < (l0.length : Int)) = true := decide_eq_true c2
    clear c2
    by_cases c3 : 0 ≤ x10_1
    ·rw [if_pos c3] at H
     have c3b0 : decide (0 ≤ x10_1) = true := decide_eq_true c3
     clear c3
     by_cases c4 : x10_1 < (l0.length : Int)
     ·rw [if_pos c4] at H
      have c4b0 : decide (x10_1 < (l0.length : Int)) = true := decide_eq_true c4
      clear c4
      have HC5 := am_ H
      clear H
      have p367 : 0 ≤ (x10_1 : Int) := of_decide_eq_true (by first | (with_reducible assumption) | assumption)
      have q367 : x10_1 < (l0.length : Int) := of_decide_eq_true (by first | (with_reducible assumption) | assumption)
      obtain ⟨ad367, e367, hx367_0, hx367_1, hx367_2⟩ := at_T85 HR0.out x10_1 p367 q367
      cases e367
      replace hx367_0 := (HB.out.cell (World.block_lt_of_cell? w _ hx367_0)).trans hx367_0
      replace hx367_1 := (HB.out.cell (World.block_lt_of_cell? w _ hx367_1)).trans hx367_1
      replace hx367_2 := (HB.out.cell (World.block_lt_of_cell? w _ hx367_2)).trans hx367_2
      replace p367 := eq_true p367
      replace q367 := eq_true q367
      go_upto_region 5 with (first | ((with_reducible refine gate_dst (N := 6) rfl ?_); (try (refine gate_guard (by rfl) ?_; dsimp only)); refine box_event ?hg (N := 6) ?hd (cs := #[.int .i64 0, .int .i64 0, .int .i64 0]) (t := 85) ?hr ?_; (case hd => rfl); (case hg => rfl); (case hr => first | (go_simp; done) | (go_simp; rfl)); intro gb368 hg w6 hbox hb; have n0_ := am_ (below_step z77_3 hb); have n1_ := am_ (hbox); have n2_ := am_ (by rw [hg]; exact (below_size z77_3) : w.heap.size ≤ gb368); have n3_ := am_ (by rw [hg]; exact (below_size z77_3) : w.heap.size ≤ gb368); clear HB; have HB := n0_; have BK368 := n1_; have GW368 := n2_; have GE368 := n3_; clear n0_ n1_ n2_ n3_; clear hb hbox hg; have hcz7_0 : w6.cell? ⟨gb368, 0, none⟩ = some (.int .i64 0) := (blk_cell BK368.out 0).trans rfl; have hcz7_1 : w6.cell? ⟨gb368, 1, none⟩ = some (.int .i64 0) := (blk_cell BK368.out 1).trans rfl; have hcz7_2 : w6.cell? ⟨gb368, 2, none⟩ = some (.int .i64 0) := (blk_cell BK368.out 2).trans rfl; have hfz7_0 := blk_frozen BK368.out 0; have hfz7_1 := blk_frozen BK368.out 1; have hfz7_2 := blk_frozen BK368.out 2))
      (try simp only [Act.put, List.setIfInBounds_toArray, List.set_cons_zero, List.set_cons_succ])
      go_cut [7] (fun v7 wc => ∃ (kq : Nat) (x7_4 : Bool), v7 = .bool x7_4 ∧ Aside0 (impl_threadOk.j1 kq l0 x3_1 x4_1 x7_4 l0 (l0.length : Int) x10_1 ((rd_T85 l0 x10_1).f0) ((rd_T85 l0 x10_1).f1) ((rd_T85 l0 x10_1).f2) = some r) ∧ Aside0 (kq ≤ k1) ∧ Aside0 (wc.heap[gb368]? = some (.cells #[.int .i64 ((rd_T85 l0 x10_1).f0), .int .i64 ((rd_T85 l0 x10_1).f1), .int .i64 ((rd_T85 l0 x10_1).f2)] 85 (0, 0))) ∧ Aside0 (Below w.heap.size w wc))
      case first =>
       have H := HC5.out
       clear HC5
       by_cases c8 : ((rd_T85 l0 x10_1).f0) = 3
       ·rw [if_pos c8] at H
        have c8b0 : (((rd_T85 l0 x10_1).f0) == 3) = true := beq_iff_eq.mpr c8
        have c8b1 : (((rd_T85 l0 x10_1).f0) != 3) = false := bne_eq_false_iff_eq.mpr c8
        clear c8
        (first | rw [c8b0] | (simp only [i64_w, i32_w]; rw [c8b0]) | skip)
        by_cases c9 : x3_1 = true
        ·subst c9
         have H1 : (if x4_1 = true then (if ((rd_T85 l0 x10_1).f0) = 7 then (impl_threadOk.j1 k1 l0 true x4_1 true l0 (l0.length : Int) x10_1 ((rd_T85 l0 x10_1).f0) ((rd_T85 l0 x10_1).f1) ((rd_T85 l0 x10_1).f2)) else (if ((rd_T85 l0 x10_1).f0) = 9 then (impl_threadOk.j1 k1 l0 true x4_1 true l0 (l0.length : Int) x10_1 ((rd_T85 l0 x10_1).f0) ((rd_T85 l0 x10_1).f1) ((rd_T85 l0 x10_1).f2)) else (impl_threadOk.j1 k1 l0 true x4_1 false l0 (l0.length : Int) x10_1 ((rd_T85 l0 x10_1).f0) ((rd_T85 l0 x10_1).f1) ((rd_T85 l0 x10_1).f2)))) else (impl_threadOk.j1 k1 l0 true x4_1 (((rd_T85 l0 x10_1).f0) == 8) l0 (l0.length : Int) x10_1 ((rd_T85 l0 x10_1).f0) ((rd_T85 l0 x10_1).f1) ((rd_T85 l0 x10_1).f2))) = some r := by rw [if_pos rfl] at H; exact H
         clear H
         have H := H1
         clear H1
         by_cases c10 : x4_1 = true
         ·subst c10
          have H1 : (if ((rd_T85 l0 x10_1).f0) = 7 then (impl_threadOk.j1 k1 l0 true true true l0 (l0.length : Int) x10_1 ((rd_T85 l0 x10_1).f0) ((rd_T85 l0 x10_1).f1) ((rd_T85 l0 x10_1).f2)) else (if ((rd_T85 l0 x10_1).f0) = 9 then (impl_threadOk.j1 k1 l0 true true true l0 (l0.length : Int) x10_1 ((rd_T85 l0 x10_1).f0) ((rd_T85 l0 x10_1).f1) ((rd_T85 l0 x10_1).f2)) else (impl_threadOk.j1 k1 l0 true true false l0 (l0.length : Int) x10_1 ((rd_T85 l0 x10_1).f0) ((rd_T85 l0 x10_1).f1) ((rd_T85 l0 x10_1).f2)))) = some r := by rw [if_pos rfl] at H; exact H
          clear H
          have H := H1
          clear H1
          by_cases c11 : ((rd_T85 l0 x10_1).f0) = 7
          ·rw [if_pos c11] at H
           have c11b0 : (((rd_T85 l0 x10_1).f0) == 7) = true := beq_iff_eq.mpr c11
           have c11b1 : (((rd_T85 l0 x10_1).f0) != 7) = false := bne_eq_false_iff_eq.mpr c11
           clear c11
           have H' := am_ H
           clear H
           have hcz12_0 : w6.cell? ⟨gb368, 0, none⟩ = some (.int .i64 0) := (blk_cell BK368.out 0).trans rfl
           have hcz12_1 : w6.cell? ⟨gb368, 1, none⟩ = some (.int .i64 0) := (blk_cell BK368.out 1).trans rfl
           have hcz12_2 : w6.cell? ⟨gb368, 2, none⟩ = some (.int .i64 0) := (blk_cell BK368.out 2).trans rfl
           have hfz12_0 := blk_frozen BK368.out 0
           have hfz12_1 := blk_frozen BK368.out 1
           have hfz12_2 := blk_frozen BK368.out 2
           go_wp2
           go_meet
           case rel => exact ⟨_, (true), z77_1, H', ⟨by have := HK1.out; first | omega | exact Nat.le_refl _⟩, ⟨z77_5⟩, ⟨z77_4⟩⟩
          ·rw [if_neg c11] at H
           have c11b0 : (((rd_T85 l0 x10_1).f0) == 7) = false := beq_eq_false_iff_ne.mpr c11
           have c11b1 : (((rd_T85 l0 x10_1).f0) != 7) = true := bne_iff_ne.mpr c11
           by_cases c13 : ((rd_T85 l0 x10_1).f0) = 9
           ·rw [if_pos c13] at H
            have c13b0 : (((rd_T85 l0 x10_1).f0) == 9) = true := beq_iff_eq.mpr c13
            have c13b1 : (((rd_T85 l0 x10_1).f0) != 9) = false := bne_eq_false_iff_eq.mpr c13
            clear c13
            have H' := am_ H
            clear H
            have hcz14_0 : w6.cell? ⟨gb368, 0, none⟩ = some (.int .i64 0) := (blk_cell BK368.out 0).trans rfl
            have hcz14_1 : w6.cell? ⟨gb368, 1, none⟩ = some (.int .i64 0) := (blk_cell BK368.out 1).trans rfl
            have hcz14_2 : w6.cell? ⟨gb368, 2, none⟩ = some (.int .i64 0) := (blk_cell BK368.out 2).trans rfl
            have hfz14_0 := blk_frozen BK368.out 0
            have hfz14_1 := blk_frozen BK368.out 1
            have hfz14_2 := blk_frozen BK368.out 2
            go_wp2
            go_meet
            case rel => exact ⟨_, (true), z77_1, H', ⟨by have := HK1.out; first | omega | exact Nat.le_refl _⟩, ⟨z77_5⟩, ⟨z77_4⟩⟩
           ·rw [if_neg c13] at H
            have c13b0 : (((rd_T85 l0 x10_1).f0) == 9) = false := beq_eq_false_iff_ne.mpr c13
            have c13b1 : (((rd_T85 l0 x10_1).f0) != 9) = true := bne_iff_ne.mpr c13
            have H' := am_ H
            clear H
            have hcz15_0 : w6.cell? ⟨gb368, 0, none⟩ = some (.int .i64 0) := (blk_cell BK368.out 0).trans rfl
            have hcz15_1 : w6.cell? ⟨gb368, 1, none⟩ = some (.int .i64 0) := (blk_cell BK368.out 1).trans rfl
            have hcz15_2 : w6.cell? ⟨gb368, 2, none⟩ = some (.int .i64 0) := (blk_cell BK368.out 2).trans rfl
            have hfz15_0 := blk_frozen BK368.out 0
            have hfz15_1 := blk_frozen BK368.out 1
            have hfz15_2 := blk_frozen BK368.out 2
            go_wp2
            go_meet
            case rel => exact ⟨_, (false), z77_1, H', ⟨by have := HK1.out; first | omega | exact Nat.le_refl _⟩, ⟨z77_5⟩, ⟨z77_4⟩⟩
         ·replace c10 := Bool.eq_false_iff.mpr c10
          subst c10
          have H1 : (impl_threadOk.j1 k1 l0 true false (((rd_T85 l0 x10_1).f0) == 8) l0 (l0.length : Int) x10_1 ((rd_T85 l0 x10_1).f0) ((rd_T85 l0 x10_1).f1) ((rd_T85 l0 x10_1).f2)) = some r := by rw [if_neg (show ¬ (false = true) by decide)] at H; exact H
          clear H
          have H := H1
          clear H1
          have H' := am_ H
          clear H
          have hcz16_0 : w6.cell? ⟨gb368, 0, none⟩ = some (.int .i64 0) := (blk_cell BK368.out 0).trans rfl
          have hcz16_1 : w6.cell? ⟨gb368, 1, none⟩ = some (.int .i64 0) := (blk_cell BK368.out 1).trans rfl
          have hcz16_2 : w6.cell? ⟨gb368, 2, none⟩ = some (.int .i64 0) := (blk_cell BK368.out 2).trans rfl
          have hfz16_0 := blk_frozen BK368.out 0
          have hfz16_1 := blk_frozen BK368.out 1
          have hfz16_2 := blk_frozen BK368.out 2
          go_wp2
          go_meet
          case rel => exact ⟨_, ((((rd_T85 l0 x10_1).f0) == 8)), z77_1, H', ⟨by have := HK1.out; first | omega | exact Nat.le_refl _⟩, ⟨z77_5⟩, ⟨z77_4⟩⟩
        ·replace c9 := Bool.eq_false_iff.mpr c9
         subst c9
         have H1 : (impl_threadOk.j1 k1 l0 false x4_1 true l0 (l0.length : Int) x10_1 ((rd_T85 l0 x10_1).f0) ((rd_T85 l0 x10_1).f1) ((rd_T85 l0 x10_1).f2)) = some r := by rw [if_neg (show ¬ (false = true) by decide)] at H; exact H
         clear H
         have H := H1
         clear H1
         have H' := am_ H
         clear H
         have hcz17_0 : w6.cell? ⟨gb368, 0, none⟩ = some (.int .i64 0) := (blk_cell BK368.out 0).trans rfl
         have hcz17_1 : w6.cell? ⟨gb368, 1, none⟩ = some (.int .i64 0) := (blk_cell BK368.out 1).trans rfl
         have hcz17_2 : w6.cell? ⟨gb368, 2, none⟩ = some (.int .i64 0) := (blk_cell BK368.out 2).trans rfl
         have hfz17_0 := blk_frozen BK368.out 0
         have hfz17_1 := blk_frozen BK368.out 1
         have hfz17_2 := blk_frozen BK368.out 2
         go_wp2
         go_meet
         case rel => exact ⟨_, (true), z77_1, H', ⟨by have := HK1.out; first | omega | exact Nat.le_refl _⟩, ⟨z77_5⟩, ⟨z77_4⟩⟩
       ·rw [if_neg c8] at H
        have c8b0 : (((rd_T85 l0 x10_1).f0) == 3) = false := beq_eq_false_iff_ne.mpr c8
        have c8b1 : (((rd_T85 l0 x10_1).f0) != 3) = true := bne_iff_ne.mpr c8
        (first | rw [c8b0] | (simp only [i64_w, i32_w]; rw [c8b0]) | skip)
        by_cases c18 : x4_1 = true
        ·subst c18
         have H1 : (if ((rd_T85 l0 x10_1).f0) = 7 then (impl_threadOk.j1 k1 l0 x3_1 true true l0 (l0.length : Int) x10_1 ((rd_T85 l0 x10_1).f0) ((rd_T85 l0 x10_1).f1) ((rd_T85 l0 x10_1).f2)) else (if ((rd_T85 l0 x10_1).f0) = 9 then (impl_threadOk.j1 k1 l0 x3_1 true true l0 (l0.length : Int) x10_1 ((rd_T85 l0 x10_1).f0) ((rd_T85 l0 x10_1).f1) ((rd_T85 l0 x10_1).f2)) else (impl_threadOk.j1 k1 l0 x3_1 true false l0 (l0.length : Int) x10_1 ((rd_T85 l0 x10_1).f0) ((rd_T85 l0 x10_1).f1) ((rd_T85 l0 x10_1).f2)))) = some r := by rw [if_pos rfl] at H; exact H
         clear H
         have H := H1
         clear H1
         by_cases c19 : ((rd_T85 l0 x10_1).f0) = 7
         ·rw [if_pos c19] at H
          have c19b0 : (((rd_T85 l0 x10_1).f0) == 7) = true := beq_iff_eq.mpr c19
          have c19b1 : (((rd_T85 l0 x10_1).f0) != 7) = false := bne_eq_false_iff_eq.mpr c19
          clear c19
          have H' := am_ H
          clear H
          have hcz20_0 : w6.cell? ⟨gb368, 0, none⟩ = some (.int .i64 0) := (blk_cell BK368.out 0).trans rfl
          have hcz20_1 : w6.cell? ⟨gb368, 1, none⟩ = some (.int .i64 0) := (blk_cell BK368.out 1).trans rfl
          have hcz20_2 : w6.cell? ⟨gb368, 2, none⟩ = some (.int .i64 0) := (blk_cell BK368.out 2).trans rfl
          have hfz20_0 := blk_frozen BK368.out 0
          have hfz20_1 := blk_frozen BK368.out 1
          have hfz20_2 := blk_frozen BK368.out 2
          go_wp2
          go_meet
          case rel => exact ⟨_, (true), z77_1, H', ⟨by have := HK1.out; first | omega | exact Nat.le_refl _⟩, ⟨z77_5⟩, ⟨z77_4⟩⟩
         ·rw [if_neg c19] at H
          have c19b0 : (((rd_T85 l0 x10_1).f0) == 7) = false := beq_eq_false_iff_ne.mpr c19
          have c19b1 : (((rd_T85 l0 x10_1).f0) != 7) = true := bne_iff_ne.mpr c19
          by_cases c21 : ((rd_T85 l0 x10_1).f0) = 9
          ·rw [if_pos c21] at H
           have c21b0 : (((rd_T85 l0 x10_1).f0) == 9) = true := beq_iff_eq.mpr c21
           have c21b1 : (((rd_T85 l0 x10_1).f0) != 9) = false := bne_eq_false_iff_eq.mpr c21
           clear c21
           have H' := am_ H
           clear H
           have hcz22_0 : w6.cell? ⟨gb368, 0, none⟩ = some (.int .i64 0) := (blk_cell BK368.out 0).trans rfl
           have hcz22_1 : w6.cell? ⟨gb368, 1, none⟩ = some (.int .i64 0) := (blk_cell BK368.out 1).trans rfl
           have hcz22_2 : w6.cell? ⟨gb368, 2, none⟩ = some (.int .i64 0) := (blk_cell BK368.out 2).trans rfl
           have hfz22_0 := blk_frozen BK368.out 0
           have hfz22_1 := blk_frozen BK368.out 1
           have hfz22_2 := blk_frozen BK368.out 2
           go_wp2
           go_meet
           case rel => exact ⟨_, (true), z77_1, H', ⟨by have := HK1.out; first | omega | exact Nat.le_refl _⟩, ⟨z77_5⟩, ⟨z77_4⟩⟩
          ·rw [if_neg c21] at H
           have c21b0 : (((rd_T85 l0 x10_1).f0) == 9) = false := beq_eq_false_iff_ne.mpr c21
           have c21b1 : (((rd_T85 l0 x10_1).f0) != 9) = true := bne_iff_ne.mpr c21
           have H' := am_ H
           clear H
           have hcz23_0 : w6.cell? ⟨gb368, 0, none⟩ = some (.int .i64 0) := (blk_cell BK368.out 0).trans rfl
           have hcz23_1 : w6.cell? ⟨gb368, 1, none⟩ = some (.int .i64 0) := (blk_cell BK368.out 1).trans rfl
           have hcz23_2 : w6.cell? ⟨gb368, 2, none⟩ = some (.int .i64 0) := (blk_cell BK368.out 2).trans rfl
           have hfz23_0 := blk_frozen BK368.out 0
           have hfz23_1 := blk_frozen BK368.out 1
           have hfz23_2 := blk_frozen BK368.out 2
           go_wp2
           go_meet
           case rel => exact ⟨_, (false), z77_1, H', ⟨by have := HK1.out; first | omega | exact Nat.le_refl _⟩, ⟨z77_5⟩, ⟨z77_4⟩⟩
        ·replace c18 := Bool.eq_false_iff.mpr c18
         subst c18
         have H1 : (impl_threadOk.j1 k1 l0 x3_1 false (((rd_T85 l0 x10_1).f0) == 8) l0 (l0.length : Int) x10_1 ((rd_T85 l0 x10_1).f0) ((rd_T85 l0 x10_1).f1) ((rd_T85 l0 x10_1).f2)) = some r := by rw [if_neg (show ¬ (false = true) by decide)] at H; exact H
         clear H
         have H := H1
         clear H1
         have H' := am_ H
         clear H
         have hcz24_0 : w6.cell? ⟨gb368, 0, none⟩ = some (.int .i64 0) := (blk_cell BK368.out 0).trans rfl
         have hcz24_1 : w6.cell? ⟨gb368, 1, none⟩ = some (.int .i64 0) := (blk_cell BK368.out 1).trans rfl
         have hcz24_2 : w6.cell? ⟨gb368, 2, none⟩ = some (.int .i64 0) := (blk_cell BK368.out 2).trans rfl
         have hfz24_0 := blk_frozen BK368.out 0
         have hfz24_1 := blk_frozen BK368.out 1
         have hfz24_2 := blk_frozen BK368.out 2
         go_wp2
         go_meet
         case rel => exact ⟨_, ((((rd_T85 l0 x10_1).f0) == 8)), z77_1, H', ⟨by have := HK1.out; first | omega | exact Nat.le_refl _⟩, ⟨z77_5⟩, ⟨z77_4⟩⟩
      case rest =>
       clear HC5
       obtain ⟨kq, x7_4, rfl, HA, HJ4, BK368, HB⟩ := hcut
       cases kq with
       | zero => exact absurd HA.out (by simp [impl_threadOk.j1])
       | succ kj4 =>
        have H := HA.out
        clear HA
        simp only [impl_threadOk.j1] at H
        replace H := Option.bind_eq_some_iff.mp H
        obtain ⟨t369, A250, H⟩ := H
        replace H : (if t369 = true then (if x7_4 = true then (some false) else (if x3_1 = true then (if ((rd_T85 l0 x10_1).f0) = 7 then (impl_threadOk.l0 kj4 l0 true true l0 (l0.length : Int) (wrap64 (x10_1 + 1))) else (if x4_1 = true then (impl_threadOk.l0 kj4 l0 true (((rd_T85 l0 x10_1).f0) != 8) l0 (l0.length : Int) (wrap64 (x10_1 + 1))) else (impl_threadOk.l0 kj4 l0 true false l0 (l0.length : Int) (wrap64 (x10_1 + 1))))) else ((impl_Do_reads.f ((rd_T85 l0 x10_1).f0) ((rd_T85 l0 x10_1).f1) ((rd_T85 l0 x10_1).f2)).bind fun t370 => (if ((rd_T85 l0 x10_1).f0) = 7 then (impl_threadOk.l0 kj4 l0 t370 true l0 (l0.length : Int) (wrap64 (x10_1 + 1))) else (if x4_1 = true then (impl_threadOk.l0 kj4 l0 t370 (((rd_T85 l0 x10_1).f0) != 8) l0 (l0.length : Int) (wrap64 (x10_1 + 1))) else (impl_threadOk.l0 kj4 l0 t370 false l0 (l0.length : Int) (wrap64 (x10_1 + 1)))))))) else (some false)) = some r := H
        have A25 := am_ A250
        clear A250
        by_cases c26 : t369 = true
        ·subst c26
         have H1 : (if x7_4 = true then (some false) else (if x3_1 = true then (if ((rd_T85 l0 x10_1).f0) = 7 then (impl_threadOk.l0 kj4 l0 true true l0 (l0.length : Int) (wrap64 (x10_1 + 1))) else (if x4_1 = true then (impl_threadOk.l0 kj4 l0 true (((rd_T85 l0 x10_1).f0) != 8) l0 (l0.length : Int) (wrap64 (x10_1 + 1))) else (impl_threadOk.l0 kj4 l0 true false l0 (l0.length : Int) (wrap64 (x10_1 + 1))))) else ((impl_Do_reads.f ((rd_T85 l0 x10_1).f0) ((rd_T85 l0 x10_1).f1) ((rd_T85 l0 x10_1).f2)).bind fun t370 => (if ((rd_T85 l0 x10_1).f0) = 7 then (impl_threadOk.l0 kj4 l0 t370 true l0 (l0.length : Int) (wrap64 (x10_1 + 1))) else (if x4_1 = true then (impl_threadOk.l0 kj4 l0 t370 (((rd_T85 l0 x10_1).f0) != 8) l0 (l0.length : Int) (wrap64 (x10_1 + 1))) else (impl_threadOk.l0 kj4 l0 t370 false l0 (l0.length : Int) (wrap64 (x10_1 + 1)))))))) = some r := by rw [if_pos rfl] at H; exact H
         clear H
         have H := H1
         clear H1
         by_cases c27 : x7_4 = true
         ·subst c27
          have H1 : (some false) = some r := by rw [if_pos rfl] at H; exact H
          clear H
          have H := H1
          clear H1
          obtain rfl := Option.some.inj H
          have hcz28_0 : wc.cell? ⟨gb368, 0, none⟩ = some (.int .i64 ((rd_T85 l0 x10_1).f0)) := (blk_cell BK368.out 0).trans rfl
          have hcz28_1 : wc.cell? ⟨gb368, 1, none⟩ = some (.int .i64 ((rd_T85 l0 x10_1).f1)) := (blk_cell BK368.out 1).trans rfl
          have hcz28_2 : wc.cell? ⟨gb368, 2, none⟩ = some (.int .i64 ((rd_T85 l0 x10_1).f2)) := (blk_cell BK368.out 2).trans rfl
          have hfz28_0 := blk_frozen BK368.out 0
          have hfz28_1 := blk_frozen BK368.out 1
          have hfz28_2 := blk_frozen BK368.out 2
          go_wp2_with (first | ((with_reducible refine gate_callee (f := 116) rfl ?_); refine goesL_ (some 44) rfl rfl Try.func116 (by kernel_rfl) rfl #[.agg #[.int .i64 ((rd_T85 l0 x10_1).f0), .int .i64 ((rd_T85 l0 x10_1).f1), .int .i64 ((rd_T85 l0 x10_1).f2)]] rfl (by (try simp only [List.map_toArray, List.map_cons, List.map_nil]); first | done | rfl | (simp only [List.length_drop, List.length_take]; rfl)) ?_; (with_reducible refine (impl_Do_formed.calls kj4 ((rd_T85 l0 x10_1).f0) ((rd_T85 l0 x10_1).f1) ((rd_T85 l0 x10_1).f2) true _ A25.out).mono ?_); rintro e w29 ⟨rfl, hb⟩; refine ⟨_, rfl, ?_⟩; have n0_ := am_ (blk_below (bu BK368.out) hb); have n1_ := am_ (below_step z77_4 hb); clear BK368 HB; have BK368 := n0_; have HB := n1_; clear n0_ n1_; (try clear hb); (try clear hb2); (try clear hk); (try clear hi)))
          go_ret
          exact ⟨z77_2, z77_4⟩
         ·replace c27 := Bool.eq_false_iff.mpr c27
          subst c27
          have H1 : (if x3_1 = true then (if ((rd_T85 l0 x10_1).f0) = 7 then (impl_threadOk.l0 kj4 l0 true true l0 (l0.length : Int) (wrap64 (x10_1 + 1))) else (if x4_1 = true then (impl_threadOk.l0 kj4 l0 true (((rd_T85 l0 x10_1).f0) != 8) l0 (l0.length : Int) (wrap64 (x10_1 + 1))) else (impl_threadOk.l0 kj4 l0 true false l0 (l0.length : Int) (wrap64 (x10_1 + 1))))) else ((impl_Do_reads.f ((rd_T85 l0 x10_1).f0) ((rd_T85 l0 x10_1).f1) ((rd_T85 l0 x10_1).f2)).bind fun t370 => (if ((rd_T85 l0 x10_1).f0) = 7 then (impl_threadOk.l0 kj4 l0 t370 true l0 (l0.length : Int) (wrap64 (x10_1 + 1))) else (if x4_1 = true then (impl_threadOk.l0 kj4 l0 t370 (((rd_T85 l0 x10_1).f0) != 8) l0 (l0.length : Int) (wrap64 (x10_1 + 1))) else (impl_threadOk.l0 kj4 l0 t370 false l0 (l0.length : Int) (wrap64 (x10_1 + 1))))))) = some r := by rw [if_neg (show ¬ (false = true) by decide)] at H; exact H
          clear H
          have H := H1
          clear H1
          by_cases c30 : x3_1 = true
          ·subst c30
           have H1 : (if ((rd_T85 l0 x10_1).f0) = 7 then (impl_threadOk.l0 kj4 l0 true true l0 (l0.length : Int) (wrap64 (x10_1 + 1))) else (if x4_1 = true then (impl_threadOk.l0 kj4 l0 true (((rd_T85 l0 x10_1).f0) != 8) l0 (l0.length : Int) (wrap64 (x10_1 + 1))) else (impl_threadOk.l0 kj4 l0 true false l0 (l0.length : Int) (wrap64 (x10_1 + 1))))) = some r := by rw [if_pos rfl] at H; exact H
           clear H
           have H := H1
           clear H1
           by_cases c31 : ((rd_T85 l0 x10_1).f0) = 7
           ·rw [if_pos c31] at H
            have c31b0 : (((rd_T85 l0 x10_1).f0) == 7) = true := beq_iff_eq.mpr c31
            have c31b1 : (((rd_T85 l0 x10_1).f0) != 7) = false := bne_eq_false_iff_eq.mpr c31
            clear c31
            have H' := am_ H
            clear H
            have hcz32_0 : wc.cell? ⟨gb368, 0, none⟩ = some (.int .i64 ((rd_T85 l0 x10_1).f0)) := (blk_cell BK368.out 0).trans rfl
            have hcz32_1 : wc.cell? ⟨gb368, 1, none⟩ = some (.int .i64 ((rd_T85 l0 x10_1).f1)) := (blk_cell BK368.out 1).trans rfl
            have hcz32_2 : wc.cell? ⟨gb368, 2, none⟩ = some (.int .i64 ((rd_T85 l0 x10_1).f2)) := (blk_cell BK368.out 2).trans rfl
            have hfz32_0 := blk_frozen BK368.out 0
            have hfz32_1 := blk_frozen BK368.out 1
            have hfz32_2 := blk_frozen BK368.out 2
            go_wp2_with (first | ((with_reducible refine gate_callee (f := 116) rfl ?_); refine goesL_ (some 44) rfl rfl Try.func116 (by kernel_rfl) rfl #[.agg #[.int .i64 ((rd_T85 l0 x10_1).f0), .int .i64 ((rd_T85 l0 x10_1).f1), .int .i64 ((rd_T85 l0 x10_1).f2)]] rfl (by (try simp only [List.map_toArray, List.map_cons, List.map_nil]); first | done | rfl | (simp only [List.length_drop, List.length_take]; rfl)) ?_; (with_reducible refine (impl_Do_formed.calls kj4 ((rd_T85 l0 x10_1).f0) ((rd_T85 l0 x10_1).f1) ((rd_T85 l0 x10_1).f2) true _ A25.out).mono ?_); rintro e w33 ⟨rfl, hb⟩; refine ⟨_, rfl, ?_⟩; have n0_ := am_ (blk_below (bu BK368.out) hb); have n1_ := am_ (below_step z77_4 hb); clear BK368 HB; have BK368 := n0_; have HB := n1_; clear n0_ n1_; (try clear hb); (try clear hb2); (try clear hk); (try clear hi); have hcz34_0 : w33.cell? ⟨gb368, 0, none⟩ = some (.int .i64 ((rd_T85 l0 x10_1).f0)) := (blk_cell BK368.out 0).trans rfl; have hcz34_1 : w33.cell? ⟨gb368, 1, none⟩ = some (.int .i64 ((rd_T85 l0 x10_1).f1)) := (blk_cell BK368.out 1).trans rfl; have hcz34_2 : w33.cell? ⟨gb368, 2, none⟩ = some (.int .i64 ((rd_T85 l0 x10_1).f2)) := (blk_cell BK368.out 2).trans rfl; have hfz34_0 := blk_frozen BK368.out 0; have hfz34_1 := blk_frozen BK368.out 1; have hfz34_2 := blk_frozen BK368.out 2))
            go_roundg kj4
            case measure => have := HK1.out; have := HJ4.out; omega
            case rel => exact ⟨(true), (true), (wrap64 (x10_1 + 1)), z77_1, z77_1, z77_1, H', ⟨by have := HK1.out; have := HJ4.out; omega⟩, ⟨z77_4⟩⟩
           ·rw [if_neg c31] at H
            have c31b0 : (((rd_T85 l0 x10_1).f0) == 7) = false := beq_eq_false_iff_ne.mpr c31
            have c31b1 : (((rd_T85 l0 x10_1).f0) != 7) = true := bne_iff_ne.mpr c31
            by_cases c35 : x4_1 = true
            ·subst c35
             have H1 : (impl_threadOk.l0 kj4 l0 true (((rd_T85 l0 x10_1).f0) != 8) l0 (l0.length : Int) (wrap64 (x10_1 + 1))) = some r := by rw [if_pos rfl] at H; exact H
             clear H
             have H := H1
             clear H1
             have H' := am_ H
             clear H
             have hcz36_0 : wc.cell? ⟨gb368, 0, none⟩ = some (.int .i64 ((rd_T85 l0 x10_1).f0)) := (blk_cell BK368.out 0).trans rfl
             have hcz36_1 : wc.cell? ⟨gb368, 1, none⟩ = some (.int .i64 ((rd_T85 l0 x10_1).f1)) := (blk_cell BK368.out 1).trans rfl
             have hcz36_2 : wc.cell? ⟨gb368, 2, none⟩ = some (.int .i64 ((rd_T85 l0 x10_1).f2)) := (blk_cell BK368.out 2).trans rfl
             have hfz36_0 := blk_frozen BK368.out 0
             have hfz36_1 := blk_frozen BK368.out 1
             have hfz36_2 := blk_frozen BK368.out 2
             go_wp2_with (first | ((with_reducible refine gate_callee (f := 116) rfl ?_); refine goesL_ (some 44) rfl rfl Try.func116 (by kernel_rfl) rfl #[.agg #[.int .i64 ((rd_T85 l0 x10_1).f0), .int .i64 ((rd_T85 l0 x10_1).f1), .int .i64 ((rd_T85 l0 x10_1).f2)]] rfl (by (try simp only [List.map_toArray, List.map_cons, List.map_nil]); first | done | rfl | (simp only [List.length_drop, List.length_take]; rfl)) ?_; (with_reducible refine (impl_Do_formed.calls kj4 ((rd_T85 l0 x10_1).f0) ((rd_T85 l0 x10_1).f1) ((rd_T85 l0 x10_1).f2) true _ A25.out).mono ?_); rintro e w37 ⟨rfl, hb⟩; refine ⟨_, rfl, ?_⟩; have n0_ := am_ (blk_below (bu BK368.out) hb); have n1_ := am_ (below_step z77_4 hb); clear BK368 HB; have BK368 := n0_; have HB := n1_; clear n0_ n1_; (try clear hb); (try clear hb2); (try clear hk); (try clear hi); have hcz38_0 : w37.cell? ⟨gb368, 0, none⟩ = some (.int .i64 ((rd_T85 l0 x10_1).f0)) := (blk_cell BK368.out 0).trans rfl; have hcz38_1 : w37.cell? ⟨gb368, 1, none⟩ = some (.int .i64 ((rd_T85 l0 x10_1).f1)) := (blk_cell BK368.out 1).trans rfl; have hcz38_2 : w37.cell? ⟨gb368, 2, none⟩ = some (.int .i64 ((rd_T85 l0 x10_1).f2)) := (blk_cell BK368.out 2).trans rfl; have hfz38_0 := blk_frozen BK368.out 0; have hfz38_1 := blk_frozen BK368.out 1; have hfz38_2 := blk_frozen BK368.out 2))
             go_roundg kj4
             case measure => have := HK1.out; have := HJ4.out; omega
             case rel => exact ⟨(true), ((((rd_T85 l0 x10_1).f0) != 8)), (wrap64 (x10_1 + 1)), z77_1, z77_1, z77_1, H', ⟨by have := HK1.out; have := HJ4.out; omega⟩, ⟨z77_4⟩⟩
            ·replace c35 := Bool.eq_false_iff.mpr c35
             subst c35
             have H1 : (impl_threadOk.l0 kj4 l0 true false l0 (l0.length : Int) (wrap64 (x10_1 + 1))) = some r := by rw [if_neg (show ¬ (false = true) by decide)] at H; exact H
             clear H
             have H := H1
             clear H1
             have H' := am_ H
             clear H
             have hcz39_0 : wc.cell? ⟨gb368, 0, none⟩ = some (.int .i64 ((rd_T85 l0 x10_1).f0)) := (blk_cell BK368.out 0).trans rfl
             have hcz39_1 : wc.cell? ⟨gb368, 1, none⟩ = some (.int .i64 ((rd_T85 l0 x10_1).f1)) := (blk_cell BK368.out 1).trans rfl
             have hcz39_2 : wc.cell? ⟨gb368, 2, none⟩ = some (.int .i64 ((rd_T85 l0 x10_1).f2)) := (blk_cell BK368.out 2).trans rfl
             have hfz39_0 := blk_frozen BK368.out 0
             have hfz39_1 := blk_frozen BK368.out 1
             have hfz39_2 := blk_frozen BK368.out 2
             go_wp2_with (first | ((with_reducible refine gate_callee (f := 116) rfl ?_); refine goesL_ (some 44) rfl rfl Try.func116 (by kernel_rfl) rfl #[.agg #[.int .i64 ((rd_T85 l0 x10_1).f0), .int .i64 ((rd_T85 l0 x10_1).f1), .int .i64 ((rd_T85 l0 x10_1).f2)]] rfl (by (try simp only [List.map_toArray, List.map_cons, List.map_nil]); first | done | rfl | (simp only [List.length_drop, List.length_take]; rfl)) ?_; (with_reducible refine (impl_Do_formed.calls kj4 ((rd_T85 l0 x10_1).f0) ((rd_T85 l0 x10_1).f1) ((rd_T85 l0 x10_1).f2) true _ A25.out).mono ?_); rintro e w40 ⟨rfl, hb⟩; refine ⟨_, rfl, ?_⟩; have n0_ := am_ (blk_below (bu BK368.out) hb); have n1_ := am_ (below_step z77_4 hb); clear BK368 HB; have BK368 := n0_; have HB := n1_; clear n0_ n1_; (try clear hb); (try clear hb2); (try clear hk); (try clear hi); have hcz41_0 : w40.cell? ⟨gb368, 0, none⟩ = some (.int .i64 ((rd_T85 l0 x10_1).f0)) := (blk_cell BK368.out 0).trans rfl; have hcz41_1 : w40.cell? ⟨gb368, 1, none⟩ = some (.int .i64 ((rd_T85 l0 x10_1).f1)) := (blk_cell BK368.out 1).trans rfl; have hcz41_2 : w40.cell? ⟨gb368, 2, none⟩ = some (.int .i64 ((rd_T85 l0 x10_1).f2)) := (blk_cell BK368.out 2).trans rfl; have hfz41_0 := blk_frozen BK368.out 0; have hfz41_1 := blk_frozen BK368.out 1; have hfz41_2 := blk_frozen BK368.out 2))
             go_roundg kj4
             case measure => have := HK1.out; have := HJ4.out; omega
             case rel => exact ⟨(true), (false), (wrap64 (x10_1 + 1)), z77_1, z77_1, z77_1, H', ⟨by have := HK1.out; have := HJ4.out; omega⟩, ⟨z77_4⟩⟩
          ·replace c30 := Bool.eq_false_iff.mpr c30
           subst c30
           have H1 : ((impl_Do_reads.f ((rd_T85 l0 x10_1).f0) ((rd_T85 l0 x10_1).f1) ((rd_T85 l0 x10_1).f2)).bind fun t370 => (if ((rd_T85 l0 x10_1).f0) = 7 then (impl_threadOk.l0 kj4 l0 t370 true l0 (l0.length : Int) (wrap64 (x10_1 + 1))) else (if x4_1 = true then (impl_threadOk.l0 kj4 l0 t370 (((rd_T85 l0 x10_1).f0) != 8) l0 (l0.length : Int) (wrap64 (x10_1 + 1))) else (impl_threadOk.l0 kj4 l0 t370 false l0 (l0.length : Int) (wrap64 (x10_1 + 1)))))) = some r := by rw [if_neg (show ¬ (false = true) by decide)] at H; exact H
           clear H
           have H := H1
           clear H1
           replace H := Option.bind_eq_some_iff.mp H
           obtain ⟨t370, A420, H⟩ := H
           replace H : (if ((rd_T85 l0 x10_1).f0) = 7 then (impl_threadOk.l0 kj4 l0 t370 true l0 (l0.length : Int) (wrap64 (x10_1 + 1))) else (if x4_1 = true then (impl_threadOk.l0 kj4 l0 t370 (((rd_T85 l0 x10_1).f0) != 8) l0 (l0.length : Int) (wrap64 (x10_1 + 1))) else (impl_threadOk.l0 kj4 l0 t370 false l0 (l0.length : Int) (wrap64 (x10_1 + 1))))) = some r := H
           have A42 := am_ A420
           clear A420
           by_cases c43 : ((rd_T85 l0 x10_1).f0) = 7
           ·rw [if_pos c43] at H
            have c43b0 : (((rd_T85 l0 x10_1).f0) == 7) = true := beq_iff_eq.mpr c43
            have c43b1 : (((rd_T85 l0 x10_1).f0) != 7) = false := bne_eq_false_iff_eq.mpr c43
            clear c43
            have H' := am_ H
            clear H
            have hcz44_0 : wc.cell? ⟨gb368, 0, none⟩ = some (.int .i64 ((rd_T85 l0 x10_1).f0)) := (blk_cell BK368.out 0).trans rfl
            have hcz44_1 : wc.cell? ⟨gb368, 1, none⟩ = some (.int .i64 ((rd_T85 l0 x10_1).f1)) := (blk_cell BK368.out 1).trans rfl
            have hcz44_2 : wc.cell? ⟨gb368, 2, none⟩ = some (.int .i64 ((rd_T85 l0 x10_1).f2)) := (blk_cell BK368.out 2).trans rfl
            have hfz44_0 := blk_frozen BK368.out 0
            have hfz44_1 := blk_frozen BK368.out 1
            have hfz44_2 := blk_frozen BK368.out 2
            go_wp2_with (first | ((with_reducible refine gate_callee (f := 116) rfl ?_); refine goesL_ (some 44) rfl rfl Try.func116 (by kernel_rfl) rfl #[.agg #[.int .i64 ((rd_T85 l0 x10_1).f0), .int .i64 ((rd_T85 l0 x10_1).f1), .int .i64 ((rd_T85 l0 x10_1).f2)]] rfl (by (try simp only [List.map_toArray, List.map_cons, List.map_nil]); first | done | rfl | (simp only [List.length_drop, List.length_take]; rfl)) ?_; (with_reducible refine (impl_Do_formed.calls kj4 ((rd_T85 l0 x10_1).f0) ((rd_T85 l0 x10_1).f1) ((rd_T85 l0 x10_1).f2) true _ A25.out).mono ?_); rintro e w45 ⟨rfl, hb⟩; refine ⟨_, rfl, ?_⟩; have n0_ := am_ (blk_below (bu BK368.out) hb); have n1_ := am_ (below_step z77_4 hb); clear BK368 HB; have BK368 := n0_; have HB := n1_; clear n0_ n1_; (try clear hb); (try clear hb2); (try clear hk); (try clear hi); have hcz46_0 : w45.cell? ⟨gb368, 0, none⟩ = some (.int .i64 ((rd_T85 l0 x10_1).f0)) := (blk_cell BK368.out 0).trans rfl; have hcz46_1 : w45.cell? ⟨gb368, 1, none⟩ = some (.int .i64 ((rd_T85 l0 x10_1).f1)) := (blk_cell BK368.out 1).trans rfl; have hcz46_2 : w45.cell? ⟨gb368, 2, none⟩ = some (.int .i64 ((rd_T85 l0 x10_1).f2)) := (blk_cell BK368.out 2).trans rfl; have hfz46_0 := blk_frozen BK368.out 0; have hfz46_1 := blk_frozen BK368.out 1; have hfz46_2 := blk_frozen BK368.out 2) | (go_at_call 114; (with_reducible refine (impl_Do_reads.calls ((rd_T85 l0 x10_1).f0) ((rd_T85 l0 x10_1).f1) ((rd_T85 l0 x10_1).f2) t370 _ A42.out).mono ?_); rintro e w47 ⟨rfl, hb⟩; have n0_ := am_ (blk_below (bu BK368.out) hb); have n1_ := am_ (below_step z77_4 hb); clear BK368 HB; have BK368 := n0_; have HB := n1_; clear n0_ n1_; (try clear hb); (try clear hb2); (try clear hk); (try clear hi); have hcz48_0 : w47.cell? ⟨gb368, 0, none⟩ = some (.int .i64 ((rd_T85 l0 x10_1).f0)) := (blk_cell BK368.out 0).trans rfl; have hcz48_1 : w47.cell? ⟨gb368, 1, none⟩ = some (.int .i64 ((rd_T85 l0 x10_1).f1)) := (blk_cell BK368.out 1).trans rfl; have hcz48_2 : w47.cell? ⟨gb368, 2, none⟩ = some (.int .i64 ((rd_T85 l0 x10_1).f2)) := (blk_cell BK368.out 2).trans rfl; have hfz48_0 := blk_frozen BK368.out 0; have hfz48_1 := blk_frozen BK368.out 1; have hfz48_2 := blk_frozen BK368.out 2))
            go_roundg kj4
            case measure => have := HK1.out; have := HJ4.out; omega
            case rel => exact ⟨(t370), (true), (wrap64 (x10_1 + 1)), z77_1, z77_1, z77_1, H', ⟨by have := HK1.out; have := HJ4.out; omega⟩, ⟨z77_4⟩⟩
           ·rw [if_neg c43] at H
            have c43b0 : (((rd_T85 l0 x10_1).f0) == 7) = false := beq_eq_false_iff_ne.mpr c43
            have c43b1 : (((rd_T85 l0 x10_1).f0) != 7) = true := bne_iff_ne.mpr c43
            by_cases c49 : x4_1 = true
            ·subst c49
             have H1 : (impl_threadOk.l0 kj4 l0 t370 (((rd_T85 l0 x10_1).f0) != 8) l0 (l0.length : Int) (wrap64 (x10_1 + 1))) = some r := by rw [if_pos rfl] at H; exact H
             clear H
             have H := H1
             clear H1
             have H' := am_ H
             clear H
             have hcz50_0 : wc.cell? ⟨gb368, 0, none⟩ = some (.int .i64 ((rd_T85 l0 x10_1).f0)) := (blk_cell BK368.out 0).trans rfl
             have hcz50_1 : wc.cell? ⟨gb368, 1, none⟩ = some (.int .i64 ((rd_T85 l0 x10_1).f1)) := (blk_cell BK368.out 1).trans rfl
             have hcz50_2 : wc.cell? ⟨gb368, 2, none⟩ = some (.int .i64 ((rd_T85 l0 x10_1).f2)) := (blk_cell BK368.out 2).trans rfl
             have hfz50_0 := blk_frozen BK368.out 0
             have hfz50_1 := blk_frozen BK368.out 1
             have hfz50_2 := blk_frozen BK368.out 2
             go_wp2_with (first | ((with_reducible refine gate_callee (f := 116) rfl ?_); refine goesL_ (some 44) rfl rfl Try.func116 (by kernel_rfl) rfl #[.agg #[.int .i64 ((rd_T85 l0 x10_1).f0), .int .i64 ((rd_T85 l0 x10_1).f1), .int .i64 ((rd_T85 l0 x10_1).f2)]] rfl (by (try simp only [List.map_toArray, List.map_cons, List.map_nil]); first | done | rfl | (simp only [List.length_drop, List.length_take]; rfl)) ?_; (with_reducible refine (impl_Do_formed.calls kj4 ((rd_T85 l0 x10_1).f0) ((rd_T85 l0 x10_1).f1) ((rd_T85 l0 x10_1).f2) true _ A25.out).mono ?_); rintro e w51 ⟨rfl, hb⟩; refine ⟨_, rfl, ?_⟩; have n0_ := am_ (blk_below (bu BK368.out) hb); have n1_ := am_ (below_step z77_4 hb); clear BK368 HB; have BK368 := n0_; have HB := n1_; clear n0_ n1_; (try clear hb); (try clear hb2); (try clear hk); (try clear hi); have hcz52_0 : w51.cell? ⟨gb368, 0, none⟩ = some (.int .i64 ((rd_T85 l0 x10_1).f0)) := (blk_cell BK368.out 0).trans rfl; have hcz52_1 : w51.cell? ⟨gb368, 1, none⟩ = some (.int .i64 ((rd_T85 l0 x10_1).f1)) := (blk_cell BK368.out 1).trans rfl; have hcz52_2 : w51.cell? ⟨gb368, 2, none⟩ = some (.int .i64 ((rd_T85 l0 x10_1).f2)) := (blk_cell BK368.out 2).trans rfl; have hfz52_0 := blk_frozen BK368.out 0; have hfz52_1 := blk_frozen BK368.out 1; have hfz52_2 := blk_frozen BK368.out 2) | (go_at_call 114; (with_reducible refine (impl_Do_reads.calls ((rd_T85 l0 x10_1).f0) ((rd_T85 l0 x10_1).f1) ((rd_T85 l0 x10_1).f2) t370 _ A42.out).mono ?_); rintro e w53 ⟨rfl, hb⟩; have n0_ := am_ (blk_below (bu BK368.out) hb); have n1_ := am_ (below_step z77_4 hb); clear BK368 HB; have BK368 := n0_; have HB := n1_; clear n0_ n1_; (try clear hb); (try clear hb2); (try clear hk); (try clear hi); have hcz54_0 : w53.cell? ⟨gb368, 0, none⟩ = some (.int .i64 ((rd_T85 l0 x10_1).f0)) := (blk_cell BK368.out 0).trans rfl; have hcz54_1 : w53.cell? ⟨gb368, 1, none⟩ = some (.int .i64 ((rd_T85 l0 x10_1).f1)) := (blk_cell BK368.out 1).trans rfl; have hcz54_2 : w53.cell? ⟨gb368, 2, none⟩ = some (.int .i64 ((rd_T85 l0 x10_1).f2)) := (blk_cell BK368.out 2).trans rfl; have hfz54_0 := blk_frozen BK368.out 0; have hfz54_1 := blk_frozen BK368.out 1; have hfz54_2 := blk_frozen BK368.out 2))
             go_roundg kj4
             case measure => have := HK1.out; have := HJ4.out; omega
             case rel => exact ⟨(t370), ((((rd_T85 l0 x10_1).f0) != 8)), (wrap64 (x10_1 + 1)), z77_1, z77_1, z77_1, H', ⟨by have := HK1.out; have := HJ4.out; omega⟩, ⟨z77_4⟩⟩
            ·replace c49 := Bool.eq_false_iff.mpr c49
             subst c49
             have H1 : (impl_threadOk.l0 kj4 l0 t370 false l0 (l0.length : Int) (wrap64 (x10_1 + 1))) = some r := by rw [if_neg (show ¬ (false = true) by decide)] at H; exact H
             clear H
             have H := H1
             clear H1
             have H' := am_ H
             clear H
             have hcz55_0 : wc.cell? ⟨gb368, 0, none⟩ = some (.int .i64 ((rd_T85 l0 x10_1).f0)) := (blk_cell BK368.out 0).trans rfl
             have hcz55_1 : wc.cell? ⟨gb368, 1, none⟩ = some (.int .i64 ((rd_T85 l0 x10_1).f1)) := (blk_cell BK368.out 1).trans rfl
             have hcz55_2 : wc.cell? ⟨gb368, 2, none⟩ = some (.int .i64 ((rd_T85 l0 x10_1).f2)) := (blk_cell BK368.out 2).trans rfl
             have hfz55_0 := blk_frozen BK368.out 0
             have hfz55_1 := blk_frozen BK368.out 1
             have hfz55_2 := blk_frozen BK368.out 2
             go_wp2_with (first | ((with_reducible refine gate_callee (f := 116) rfl ?_); refine goesL_ (some 44) rfl rfl Try.func116 (by kernel_rfl) rfl #[.agg #[.int .i64 ((rd_T85 l0 x10_1).f0), .int .i64 ((rd_T85 l0 x10_1).f1), .int .i64 ((rd_T85 l0 x10_1).f2)]] rfl (by (try simp only [List.map_toArray, List.map_cons, List.map_nil]); first | done | rfl | (simp only [List.length_drop, List.length_take]; rfl)) ?_; (with_reducible refine (impl_Do_formed.calls kj4 ((rd_T85 l0 x10_1).f0) ((rd_T85 l0 x10_1).f1) ((rd_T85 l0 x10_1).f2) true _ A25.out).mono ?_); rintro e w56 ⟨rfl, hb⟩; refine ⟨_, rfl, ?_⟩; have n0_ := am_ (blk_below (bu BK368.out) hb); have n1_ := am_ (below_step z77_4 hb); clear BK368 HB; have BK368 := n0_; have HB := n1_; clear n0_ n1_; (try clear hb); (try clear hb2); (try clear hk); (try clear hi); have hcz57_0 : w56.cell? ⟨gb368, 0, none⟩ = some (.int .i64 ((rd_T85 l0 x10_1).f0)) := (blk_cell BK368.out 0).trans rfl; have hcz57_1 : w56.cell? ⟨gb368, 1, none⟩ = some (.int .i64 ((rd_T85 l0 x10_1).f1)) := (blk_cell BK368.out 1).trans rfl; have hcz57_2 : w56.cell? ⟨gb368, 2, none⟩ = some (.int .i64 ((rd_T85 l0 x10_1).f2)) := (blk_cell BK368.out 2).trans rfl; have hfz57_0 := blk_frozen BK368.out 0; have hfz57_1 := blk_frozen BK368.out 1; have hfz57_2 := blk_frozen BK368.out 2) | (go_at_call 114; (with_reducible refine (impl_Do_reads.calls ((rd_T85 l0 x10_1).f0) ((rd_T85 l0 x10_1).f1) ((rd_T85 l0 x10_1).f2) t370 _ A42.out).mono ?_); rintro e w58 ⟨rfl, hb⟩; have n0_ := am_ (blk_below (bu BK368.out) hb); have n1_ := am_ (below_step z77_4 hb); clear BK368 HB; have BK368 := n0_; have HB := n1_; clear n0_ n1_; (try clear hb); (try clear hb2); (try clear hk); (try clear hi); have hcz59_0 : w58.cell? ⟨gb368, 0, none⟩ = some (.int .i64 ((rd_T85 l0 x10_1).f0)) := (blk_cell BK368.out 0).trans rfl; have hcz59_1 : w58.cell? ⟨gb368, 1, none⟩ = some (.int .i64 ((rd_T85 l0 x10_1).f1)) := (blk_cell BK368.out 1).trans rfl; have hcz59_2 : w58.cell? ⟨gb368, 2, none⟩ = some (.int .i64 ((rd_T85 l0 x10_1).f2)) := (blk_cell BK368.out 2).trans rfl; have hfz59_0 := blk_frozen BK368.out 0; have hfz59_1 := blk_frozen BK368.out 1; have hfz59_2 := blk_frozen BK368.out 2))
             go_roundg kj4
             case measure => have := HK1.out; have := HJ4.out; omega
             case rel => exact ⟨(t370), (false), (wrap64 (x10_1 + 1)), z77_1, z77_1, z77_1, H', ⟨by have := HK1.out; have := HJ4.out; omega⟩, ⟨z77_4⟩⟩
        ·replace c26 := Bool.eq_false_iff.mpr c26
         subst c26
         have H1 : (some false) = some r := by rw [if_neg (show ¬ (false = true) by decide)] at H; exact H
         clear H
         have H := H1
         clear H1
         obtain rfl := Option.some.inj H
         have hcz60_0 : wc.cell? ⟨gb368, 0, none⟩ = some (.int .i64 ((rd_T85 l0 x10_1).f0)) := (blk_cell BK368.out 0).trans rfl
         have hcz60_1 : wc.cell? ⟨gb368, 1, none⟩ = some (.int .i64 ((rd_T85 l0 x10_1).f1)) := (blk_cell BK368.out 1).trans rfl
         have hcz60_2 : wc.cell? ⟨gb368, 2, none⟩ = some (.int .i64 ((rd_T85 l0 x10_1).f2)) := (blk_cell BK368.out 2).trans rfl
         have hfz60_0 := blk_frozen BK368.out 0
         have hfz60_1 := blk_frozen BK368.out 1
         have hfz60_2 := blk_frozen BK368.out 2
         go_wp2_with (first | ((with_reducible refine gate_callee (f := 116) rfl ?_); refine goesL_ (some 44) rfl rfl Try.func116 (by kernel_rfl) rfl #[.agg #[.int .i64 ((rd_T85 l0 x10_1).f0), .int .i64 ((rd_T85 l0 x10_1).f1), .int .i64 ((rd_T85 l0 x10_1).f2)]] rfl (by (try simp only [List.map_toArray, List.map_cons, List.map_nil]); first | done | rfl | (simp only [List.length_drop, List.length_take]; rfl)) ?_; (with_reducible refine (impl_Do_formed.calls kj4 ((rd_T85 l0 x10_1).f0) ((rd_T85 l0 x10_1).f1) ((rd_T85 l0 x10_1).f2) false _ A25.out).mono ?_); rintro e w61 ⟨rfl, hb⟩; refine ⟨_, rfl, ?_⟩; have n0_ := am_ (blk_below (bu BK368.out) hb); have n1_ := am_ (below_step z77_4 hb); clear BK368 HB; have BK368 := n0_; have HB := n1_; clear n0_ n1_; (try clear hb); (try clear hb2); (try clear hk); (try clear hi)))
         go_ret
         exact ⟨z77_2, z77_4⟩
     ·rw [if_neg c4] at H
      exact absurd H (by simp)
    ·rw [if_neg c3] at H
     exact absurd H (by simp)
   ·rw [if_neg c2] at H
    have c2b0 : decide (x10_1 < (l0.length : Int)) = false := decide_eq_false c2
    clear c2
    by_cases c62 : x4_1 = true
    ·subst c62
     have H1 : (some false) = some r := by rw [if_pos rfl] at H; exact H
     clear H
     have H := H1
     clear H1
     obtain rfl := Option.some.inj H
     go_wp2
     go_ret
     exact ⟨z77_2, z77_3⟩
    ·replace c62 := Bool.eq_false_iff.mpr c62
     subst c62
     have H1 : (some (decide ((l0.length : Int) ≤ 7))) = some r := by rw [if_neg (show ¬ (false = true) by decide)] at H; exact H
     clear H
     have H := H1
     clear H1
     obtain rfl := Option.some.inj H
     go_wp2
     go_ret
     exact ⟨z77_2, z77_3⟩

end Go.Proofs.Ytefkbmhkhpekjaa.PB

namespace Go.Proofs.Ytefkbmhkhpekjaa.PB
open Go.RowKit Go.Proofs.YtefkbmhkhpekjaaW.PrintWords Go.Proofs.YtefkbmhkhpekjaaW.PrintLast Go.Proofs.YtefkbmhkhpekjaaW.PrintMore
attribute [local go_sem] max2_int min2_int max_two min_two max_three min_three max_four min_four   -- for this text's walks alone
open Go.Proofs.YtefkbmhkhpekjaaMine
set_option linter.unusedVariables false
set_option linter.unusedSimpArgs false

theorem z31_1 {p : Prop} (h : p := by first | rfl | (simp; done) | (simp [*]; done)) : p := h
theorem z31_2 {p : Prop} (h : p := by first | (with_reducible assumption) | assumption) : p := h
theorem z31_3 {p : Prop} (h : p := by first | rfl | (simp [errW_none, errW_some] <;> rfl) | (simp [*, errW_none, errW_some] <;> rfl)) : p := h
theorem z31_4 {p : Prop} (h : p := by repeat (first | (with_reducible first | exact HB.out | apply below_alloc | apply pw_below_drewN | apply below_drew1) | exact HB.out)) : p := h
theorem z31_5 {p : Prop} (h : p := by repeat (first | (with_reducible first | exact HB.out | apply below_alloc | apply pw_below_drewN | apply below_drew1 | refine below_set ?_ GE371.out) | exact HB.out)) : p := h
theorem z31_6 {p : Prop} (h : p := by repeat (first | (with_reducible first | exact HB.out | apply below_alloc | apply pw_below_drewN | apply below_drew1 | refine below_set ?_ GE371.out | refine below_set ?_ GE375.out) | exact HB.out)) : p := h
theorem z31_7 {p : Prop} (h : p := by (with_reducible repeat (first | refine blk_drewN ?_ _ | refine blk_drew ?_ | refine blk_alloc ?_ _)); refine blk_far ?_ NB371_375.out _; (with_reducible repeat (first | refine blk_drewN ?_ _ | refine blk_drew ?_ | refine blk_alloc ?_ _)); refine blk_far ?_ NB371_375.out _; (with_reducible repeat (first | refine blk_drewN ?_ _ | refine blk_drew ?_ | refine blk_alloc ?_ _)); refine blk_far ?_ NB371_375.out _; (with_reducible repeat (first | refine blk_drewN ?_ _ | refine blk_drew ?_ | refine blk_alloc ?_ _)); exact BK371.out) : p := h
theorem z31_8 {p : Prop} (h : p := by (with_reducible repeat (first | refine blk_drewN ?_ _ | refine blk_drew ?_ | refine blk_alloc ?_ _)); refine blk_put (cs := #[.int .i64 ((rd_T85 (rd_L7 l0_0 x16_1) x29_2).f0), .int .i64 ((rd_T85 (rd_L7 l0_0 x16_1) x29_2).f1), .int .i64 0]) ?_ 2 _ rfl; (with_reducible repeat (first | refine blk_drewN ?_ _ | refine blk_drew ?_ | refine blk_alloc ?_ _)); refine blk_put (cs := #[.int .i64 ((rd_T85 (rd_L7 l0_0 x16_1) x29_2).f0), .int .i64 0, .int .i64 0]) ?_ 1 _ rfl; (with_reducible repeat (first | refine blk_drewN ?_ _ | refine blk_drew ?_ | refine blk_alloc ?_ _)); refine blk_put (cs := #[.int .i64 0, .int .i64 0, .int .i64 0]) ?_ 0 _ rfl; (with_reducible repeat (first | refine blk_drewN ?_ _ | refine blk_drew ?_ | refine blk_alloc ?_ _)); exact BK375.out) : p := h
/-! ### impl_ProgOk: function 31 -/
mutual
def impl_ProgOk.l0 : Nat → Int → Int → List (List (S85)) → Int → Int → Option (Bool)
  | 0, _, _, _, _, _ => none
  | k + 1, x3, x4, x14, x15, x16 => if x16 < x15 then (if 0 ≤ x16 then (if x16 < (x14.length : Int) then ((impl_threadOk.f k (rd_L7 x14 x16)).bind fun t373 => (if t373 = true then (impl_ProgOk.l1 k (wrap64 (x3 + ((rd_L7 x14 x16).length : Int))) x4 x14 x15 x16 (rd_L7 x14 x16) ((rd_L7 x14 x16).length : Int) 0) else (some false))) else (none)) else (none)) else (if x3 ≤ 14 then (some (decide (x4 ≤ 6))) else (some false))
def impl_ProgOk.l1 : Nat → Int → Int → List (List (S85)) → Int → Int → List (S85) → Int → Int → Option (Bool)
  | 0, _, _, _, _, _, _, _, _ => none
  | k + 1, x3, x4, x14, x15, x16, x27, x28, x29 => if x29 < x28 then (if 0 ≤ x29 then (if x29 < (x27.length : Int) then ((impl_Do_uses.f ((rd_T85 x27 x29).f0) ((rd_T85 x27 x29).f1) ((rd_T85 x27 x29).f2)).bind fun t376 => (if t376 = true then (impl_ProgOk.l1 k x3 (wrap64 (x4 + 1)) x14 x15 x16 x27 x28 (wrap64 (x29 + 1))) else (impl_ProgOk.l1 k x3 x4 x14 x15 x16 x27 x28 (wrap64 (x29 + 1))))) else (none)) else (none)) else (impl_ProgOk.l0 k x3 x4 x14 x15 (wrap64 (x16 + 1)))
end
def impl_ProgOk.f (k : Nat) (l0_0 : List (List (S85))) : Option (Bool) := if (l0_0.length : Int) > 3 then (some false) else (impl_ProgOk.l0 k 0 0 l0_0 (l0_0.length : Int) 0)
theorem impl_ProgOk.mono_l : ∀ k, (∀ y0 y1 y2 y3 y4, LeO (impl_ProgOk.l0 k y0 y1 y2 y3 y4) (impl_ProgOk.l0 (k + 1) y0 y1 y2 y3 y4)) ∧ (∀ y0 y1 y2 y3 y4 y5 y6 y7, LeO (impl_ProgOk.l1 k y0 y1 y2 y3 y4 y5 y6 y7) (impl_ProgOk.l1 (k + 1) y0 y1 y2 y3 y4 y5 y6 y7))
  | 0 => ⟨fun _ _ _ _ _ r h => by simp [impl_ProgOk.l0] at h, fun _ _ _ _ _ _ _ _ r h => by simp [impl_ProgOk.l1] at h⟩
  | k + 1 => by
    obtain ⟨ih0, ih1⟩ := impl_ProgOk.mono_l k
    refine ⟨?_, ?_⟩
    · intro y0 y1 y2 y3 y4
      unfold impl_ProgOk.l0
      repeat' first
      | (with_reducible exact ih0 _ _ _ _ _)
      | (with_reducible exact ih1 _ _ _ _ _ _ _ _)
      | (with_reducible exact impl_threadOk.mono _ _)
      | (with_reducible exact LeO.refl _)
      | (with_reducible exact LeO.none _)
      | (with_reducible refine LeO.ite ?_ ?_)
      | (with_reducible refine LeO.bind ?_ (fun _ => ?_))
      | exact ih0 _ _ _ _ _
      | exact ih1 _ _ _ _ _ _ _ _
      | exact impl_threadOk.mono _ _
      | exact LeO.none _
      | refine LeO.ite ?_ ?_
      | refine LeO.bind ?_ (fun _ => ?_)
    · intro y0 y1 y2 y3 y4 y5 y6 y7
      unfold impl_ProgOk.l1
      repeat' first
      | (with_reducible exact ih0 _ _ _ _ _)
      | (with_reducible exact ih1 _ _ _ _ _ _ _ _)
      | (with_reducible exact impl_threadOk.mono _ _)
      | (with_reducible exact LeO.refl _)
      | (with_reducible exact LeO.none _)
      | (with_reducible refine LeO.ite ?_ ?_)
      | (with_reducible refine LeO.bind ?_ (fun _ => ?_))
      | exact ih0 _ _ _ _ _
      | exact ih1 _ _ _ _ _ _ _ _
      | exact impl_threadOk.mono _ _
      | exact LeO.none _
      | refine LeO.ite ?_ ?_
      | refine LeO.bind ?_ (fun _ => ?_)
theorem impl_ProgOk.mono : ∀ a0 k, LeO (impl_ProgOk.f k a0) (impl_ProgOk.f (k + 1) a0) := by
  intro a0 k
  obtain ⟨ih0, ih1⟩ := impl_ProgOk.mono_l k
  unfold impl_ProgOk.f
  repeat' first
      | (with_reducible exact ih0 _ _ _ _ _)
      | (with_reducible exact ih1 _ _ _ _ _ _ _ _)
      | (with_reducible exact impl_threadOk.mono _ _)
      | (with_reducible exact LeO.refl _)
      | (with_reducible exact LeO.none _)
      | (with_reducible refine LeO.ite ?_ ?_)
      | (with_reducible refine LeO.bind ?_ (fun _ => ?_))
      | exact ih0 _ _ _ _ _
      | exact ih1 _ _ _ _ _ _ _ _
      | exact impl_threadOk.mono _ _
      | exact LeO.none _
      | refine LeO.ite ?_ ?_
      | refine LeO.bind ?_ (fun _ => ?_)
set_option maxHeartbeats 8000000 in
set_option maxRecDepth 100000 in
theorem impl_ProgOk.calls (k : Nat) (A0_0 : Option Addr) (c0_0 : Nat) (l0_0 : List (List (S85))) (r : Bool) (w : World) (hr0_0 : Kd.C (Kd.slice 85 k85) w A0_0 l0_0.length l0_0) (hc0_0 : l0_0.length ≤ c0_0) (h : impl_ProgOk.f k l0_0 = some r) :
  Calls Try.prog 31 #[.agg #[.slice A0_0 l0_0.length c0_0]] w fun e w' => e = .returned (.bool r) ∧ Below w.heap.size w w' := by
 have hu35 := Try.underlying35
 have hu85 := Try.underlying85
 have HR0_0 := am_ hr0_0
 have HC0_0 := am_ hc0_0
 clear hr0_0 hc0_0
 have HB := am_ (Below.refl w.heap.size w)
 have H : (if (l0_0.length : Int) > 3 then (some false) else (impl_ProgOk.l0 k 0 0 l0_0 (l0_0.length : Int) 0)) = some r := h
 clear h
 by_cases c2 : (l0_0.length : Int) > 3
 ·rw [if_pos c2] at H
  have c2b0 : decide (3 < (l0_0.length : Int)) = true := decide_eq_true c2
  have c2b1 : decide (3 < l0_0.length) = true := decide_eq_true (by omega)
  clear c2
  obtain rfl := Option.some.inj H
  go_enter Try.func31, Try.ntmps31
  go_wp2_with (first | ((with_reducible refine gate_dst (N := 1) rfl ?_); refine box_event ?hg (N := 1) ?hd (cs := #[.slice A0_0 l0_0.length c0_0]) (t := 35) ?hr ?_; (case hd => rfl); (case hg => rfl); (case hr => first | (go_simp; done) | (go_simp; rfl)); intro gb371 hg w3 hbox hb; have n0_ := am_ (below_step z31_4 hb); have n1_ := am_ (hbox); have n2_ := am_ (by rw [hg]; exact (below_size z31_4) : w.heap.size ≤ gb371); have n3_ := am_ (by rw [hg]; exact (below_size z31_4) : w.heap.size ≤ gb371); clear HB; have HB := n0_; have BK371 := n1_; have GW371 := n2_; have GE371 := n3_; clear n0_ n1_ n2_ n3_; clear hb hbox hg; have hcz4_0 : w3.cell? ⟨gb371, 0, none⟩ = some (.slice A0_0 l0_0.length c0_0) := (blk_cell BK371.out 0).trans rfl; have hfz4_0 := blk_frozen BK371.out 0))
  go_ret
  exact ⟨z31_3, z31_5⟩
 ·rw [if_neg c2] at H
  have c2b0 : decide (3 < (l0_0.length : Int)) = false := decide_eq_false c2
  have c2b1 : decide (3 < l0_0.length) = false := decide_eq_false (by omega)
  clear c2
  have H' := am_ H
  clear H
  go_enter Try.func31, Try.ntmps31
  go_wp2_with (first | ((with_reducible refine gate_dst (N := 1) rfl ?_); refine box_event ?hg (N := 1) ?hd (cs := #[.slice A0_0 l0_0.length c0_0]) (t := 35) ?hr ?_; (case hd => rfl); (case hg => rfl); (case hr => first | (go_simp; done) | (go_simp; rfl)); intro gb371 hg w5 hbox hb; have n0_ := am_ (below_step z31_4 hb); have n1_ := am_ (hbox); have n2_ := am_ (by rw [hg]; exact (below_size z31_4) : w.heap.size ≤ gb371); have n3_ := am_ (by rw [hg]; exact (below_size z31_4) : w.heap.size ≤ gb371); clear HB; have HB := n0_; have BK371 := n1_; have GW371 := n2_; have GE371 := n3_; clear n0_ n1_ n2_ n3_; clear hb hbox hg; have hcz6_0 : w5.cell? ⟨gb371, 0, none⟩ = some (.slice A0_0 l0_0.length c0_0) := (blk_cell BK371.out 0).trans rfl; have hfz6_0 := blk_frozen BK371.out 0))
  go_loopg [3, 4, 16] k (fun kq v3 v4 v16 w' => ∃ (x3_1 : Int) (x4_1 : Int) (x16_1 : Int), v3 = .int .i64 x3_1 ∧ v4 = .int .i64 x4_1 ∧ v16 = .int .i64 x16_1 ∧ Aside0 (impl_ProgOk.l0 kq x3_1 x4_1 l0_0 (l0_0.length : Int) x16_1 = some r) ∧ Aside0 (kq ≤ k) ∧ Aside0 (w'.heap[gb371]? = some (.cells #[(.slice A0_0 l0_0.length c0_0)] 35 (0, 0))) ∧ Aside0 (Below w.heap.size w w'))
  case atStart => exact ⟨(0), (0), (0), z31_1, z31_1, z31_1, H', ⟨Nat.le_refl _⟩, ⟨bu BK371.out⟩, ⟨z31_5⟩⟩
  case round =>
   clear H'
   obtain ⟨x3_1, x4_1, x16_1, rfl, rfl, rfl, HA, HK1, BK371, HB⟩ := hrel
   cases gk with
   | zero => exact absurd HA.out (by simp [impl_ProgOk.l0])
   | succ k1 =>
    have H := HA.out
    clear HA
    simp only [impl_ProgOk.l0] at H
    by_cases c7 : x16_1 < (l0_0.length : Int)
    ·rw [if_pos c7] at H
     have c7b0 : decide (x16_1 < (l0_0.length : Int)) = true := decide_eq_true c7
     clear c7
     by_cases c8 : 0 ≤ x16_1
     ·rw [if_pos c8] at H
      have c8b0 : decide (0 ≤ x16_1) = true := decide_eq_true c8
      clear c8
      by_cases c9 : x16_1 < (l0_0.length : Int)
      ·rw [if_pos c9] at H
       have c9b0 : decide (x16_1 < (l0_0.length : Int)) = true := decide_eq_true c9
       clear c9
       replace H := Option.bind_eq_some_iff.mp H
       obtain ⟨t373, A100, H⟩ := H
       replace H : (if t373 = true then (impl_ProgOk.l1 k1 (wrap64 (x3_1 + ((rd_L7 l0_0 x16_1).length : Int))) x4_1 l0_0 (l0_0.length : Int) x16_1 (rd_L7 l0_0 x16_1) ((rd_L7 l0_0 x16_1).length : Int) 0) else (some false)) = some r := H
       have A10 := am_ A100
       clear A100
       by_cases c11 : t373 = true
       ·subst c11
        have H1 : (impl_ProgOk.l1 k1 (wrap64 (x3_1 + ((rd_L7 l0_0 x16_1).length : Int))) x4_1 l0_0 (l0_0.length : Int) x16_1 (rd_L7 l0_0 x16_1) ((rd_L7 l0_0 x16_1).length : Int) 0) = some r := by rw [if_pos rfl] at H; exact H
        clear H
        have H := H1
        clear H1
        have H' := am_ H
        clear H
        have p372 : 0 ≤ (x16_1 : Int) := of_decide_eq_true z31_2
        have q372 : x16_1 < (l0_0.length : Int) := of_decide_eq_true z31_2
        obtain ⟨ad372, A372_0, c372_0, e372, hx372_0, hl372_0, hi372_0⟩ := at_L7 HR0_0.out x16_1 p372 q372
        cases e372
        replace hx372_0 := (HB.out.cell (World.block_lt_of_cell? w _ hx372_0)).trans hx372_0
        have HR372_0 := am_ hi372_0
        have HC372_0 := am_ hl372_0
        clear hi372_0 hl372_0
        replace p372 := eq_true p372
        replace q372 := eq_true q372
        go_wp2_with (first | ((with_reducible refine gate_callee (f := 77) rfl ?_); refine goesL_ (some 21) rfl rfl Try.func77 (by kernel_rfl) rfl #[.slice A372_0 (rd_L7 l0_0 x16_1).length c372_0] rfl (by (try simp only [List.map_toArray, List.map_cons, List.map_nil]); first | done | rfl | (simp only [List.length_drop, List.length_take]; rfl)) ?_; (with_reducible refine (impl_threadOk.calls k1 _ _ (rd_L7 l0_0 x16_1) true _ ?side1 ?side2 A10.out).mono ?_); (case side1 => repeat (first | exact (Kd.C_below HR372_0.out HB.out) | (with_reducible refine Kd.C_alloc ?_ _) | (with_reducible refine Kd.C_drewN ?_ _) | (with_reducible refine Kd.C_drew ?_))); (case side2 => exact HC372_0.out); rintro e w12 ⟨rfl, hb⟩; refine ⟨_, rfl, ?_⟩; have n0_ := am_ (blk_below (bu BK371.out) hb); have n1_ := am_ (below_step z31_5 hb); clear BK371 HB; have BK371 := n0_; have HB := n1_; clear n0_ n1_; (try clear hb); (try clear hb2); (try clear hk); (try clear hi)))
        go_loopg [4, 29] k1 (fun kq v4 v29 w' => ∃ (x4_2 : Int) (x29_2 : Int), v4 = .int .i64 x4_2 ∧ v29 = .int .i64 x29_2 ∧ Aside0 (impl_ProgOk.l1 kq (wrap64 (x3_1 + ((rd_L7 l0_0 x16_1).length : Int))) x4_2 l0_0 (l0_0.length : Int) x16_1 (rd_L7 l0_0 x16_1) ((rd_L7 l0_0 x16_1).length : Int) x29_2 = some r) ∧ Aside0 (kq ≤ k1) ∧ Aside0 (w'.heap[gb371]? = some (.cells #[(.slice (some ad372) l0_0.length c0_0)] 35 (0, 0))) ∧ Aside0 (Below w.heap.size w w'))
        case atStart => exact ⟨(x4_1), (0), z31_1, z31_1, H', ⟨Nat.le_refl _⟩, ⟨bu BK371.out⟩, ⟨z31_5⟩⟩
        case round =>
         clear H'
         obtain ⟨x4_2, x29_2, rfl, rfl, HA, HK2, BK371, HB⟩ := hrel
         cases gk with
         | zero => exact absurd HA.out (by simp [impl_ProgOk.l1])
         | succ k2 =>
          have H := HA.out
          clear HA
          simp only [impl_ProgOk.l1] at H
          by_cases c13 : x29_2 < ((rd_L7 l0_0 x16_1).length : Int)
          ·rw [if_pos c13] at H
           have c13b0 : decide (x29_2 < ((rd_L7 l0_0 x16_1).length : Int)) = true := decide_eq_true c13
           clear c13
           by_cases c14 : 0 ≤ x29_2
           ·rw [if_pos c14] at H
            have c14b0 : decide (0 ≤ x29_2) = true := decide_eq_true c14
            clear c14
            by_cases c15 : x29_2 < ((rd_L7 l0_0 x16_1).length : Int)
            ·rw [if_pos c15] at H
             have c15b0 : decide (x29_2 < ((rd_L7 l0_0 x16_1).length : Int)) = true := decide_eq_true c15
             clear c15
             replace H := Option.bind_eq_some_iff.mp H
             obtain ⟨t376, A160, H⟩ := H
             replace H : (if t376 = true then (impl_ProgOk.l1 k2 (wrap64 (x3_1 + ((rd_L7 l0_0 x16_1).length : Int))) (wrap64 (x4_2 + 1)) l0_0 (l0_0.length : Int) x16_1 (rd_L7 l0_0 x16_1) ((rd_L7 l0_0 x16_1).length : Int) (wrap64 (x29_2 + 1))) else (impl_ProgOk.l1 k2 (wrap64 (x3_1 + ((rd_L7 l0_0 x16_1).length : Int))) x4_2 l0_0 (l0_0.length : Int) x16_1 (rd_L7 l0_0 x16_1) ((rd_L7 l0_0 x16_1).length : Int) (wrap64 (x29_2 + 1)))) = some r := H
             have A16 := am_ A160
             clear A160
             by_cases c17 : t376 = true
             ·subst c17
              have H1 : (impl_ProgOk.l1 k2 (wrap64 (x3_1 + ((rd_L7 l0_0 x16_1).length : Int))) (wrap64 (x4_2 + 1)) l0_0 (l0_0.length : Int) x16_1 (rd_L7 l0_0 x16_1) ((rd_L7 l0_0 x16_1).length : Int) (wrap64 (x29_2 + 1))) = some r := by rw [if_pos rfl] at H; exact H
              clear H
              have H := H1
              clear H1
              have H' := am_ H
              clear H
              have p374 : 0 ≤ (x29_2 : Int) := of_decide_eq_true z31_2
              have q374 : x29_2 < ((rd_L7 l0_0 x16_1).length : Int) := of_decide_eq_true z31_2
              obtain ⟨ad374, e374, hx374_0, hx374_1, hx374_2⟩ := at_T85 HR372_0.out x29_2 p374 q374
              cases e374
              replace hx374_0 := (HB.out.cell (World.block_lt_of_cell? w _ hx374_0)).trans hx374_0
              replace hx374_1 := (HB.out.cell (World.block_lt_of_cell? w _ hx374_1)).trans hx374_1
              replace hx374_2 := (HB.out.cell (World.block_lt_of_cell? w _ hx374_2)).trans hx374_2
              replace p374 := eq_true p374
              replace q374 := eq_true q374
              go_wp2_with (first | ((with_reducible refine gate_dst (N := 8) rfl ?_); refine box_event ?hg (N := 8) ?hd (cs := #[.int .i64 0, .int .i64 0, .int .i64 0]) (t := 85) ?hr ?_; (case hd => rfl); (case hg => rfl); (case hr => first | (go_simp; done) | (go_simp; rfl)); intro gb375 hg w18 hbox hb; have n0_ := am_ (blk_below (bu BK371.out) hb); have n1_ := am_ (below_step z31_5 hb); have n2_ := am_ (hbox); have n3_ := am_ (by rw [hg]; exact (below_size z31_5) : w.heap.size ≤ gb375); have n4_ := am_ (by rw [hg]; exact (below_size z31_5) : w.heap.size ≤ gb375); have n5_ := am_ (by rw [hg]; exact Nat.ne_of_lt (blk_lt (bu BK371.out)) : gb371 ≠ gb375); have n6_ := am_ (by rw [hg]; exact Nat.ne_of_gt (blk_lt (bu BK371.out)) : gb375 ≠ gb371); clear BK371 HB; have BK371 := n0_; have HB := n1_; have BK375 := n2_; have GW375 := n3_; have GE375 := n4_; have NB371_375 := n5_; have NB375_371 := n6_; clear n0_ n1_ n2_ n3_ n4_ n5_ n6_; clear hb hbox hg; have hnb19 := NB375_371.out; have hnc19 := NB371_375.out; have hcz20_0 : w18.cell? ⟨gb375, 0, none⟩ = some (.int .i64 0) := (blk_cell BK375.out 0).trans rfl; have hcz20_1 : w18.cell? ⟨gb375, 1, none⟩ = some (.int .i64 0) := (blk_cell BK375.out 1).trans rfl; have hcz20_2 : w18.cell? ⟨gb375, 2, none⟩ = some (.int .i64 0) := (blk_cell BK375.out 2).trans rfl; have hfz20_0 := blk_frozen BK375.out 0; have hfz20_1 := blk_frozen BK375.out 1; have hfz20_2 := blk_frozen BK375.out 2) | ((with_reducible refine gate_callee (f := 78) rfl ?_); refine goesL_ (some 34) rfl rfl Try.func78 (by kernel_rfl) rfl #[.agg #[.int .i64 ((rd_T85 (rd_L7 l0_0 x16_1) x29_2).f0), .int .i64 ((rd_T85 (rd_L7 l0_0 x16_1) x29_2).f1), .int .i64 ((rd_T85 (rd_L7 l0_0 x16_1) x29_2).f2)]] rfl (by (try simp only [List.map_toArray, List.map_cons, List.map_nil]); first | done | rfl | (simp only [List.length_drop, List.length_take]; rfl)) ?_; (with_reducible refine (impl_Do_uses.calls ((rd_T85 (rd_L7 l0_0 x16_1) x29_2).f0) ((rd_T85 (rd_L7 l0_0 x16_1) x29_2).f1) ((rd_T85 (rd_L7 l0_0 x16_1) x29_2).f2) true _ A16.out).mono ?_); rintro e w21 ⟨rfl, hb⟩; refine ⟨_, rfl, ?_⟩; have n0_ := am_ (blk_below (g := gb371) (o := .cells #[.slice (some ad372) l0_0.length c0_0] 35 (0, 0)) z31_7 hb); have n1_ := am_ (blk_below (g := gb375) (o := .cells #[.int .i64 ((rd_T85 (rd_L7 l0_0 x16_1) x29_2).f0), .int .i64 ((rd_T85 (rd_L7 l0_0 x16_1) x29_2).f1), .int .i64 ((rd_T85 (rd_L7 l0_0 x16_1) x29_2).f2)] 85 (0, 0)) z31_8 hb); have n2_ := am_ (below_step z31_6 hb); clear BK371 BK375 HB; have BK371 := n0_; have BK375 := n1_; have HB := n2_; clear n0_ n1_ n2_; (try clear hb); (try clear hb2); (try clear hk); (try clear hi)))
              go_roundg k2
              case measure => have := HK1.out; have := HK2.out; omega
              case rel => exact ⟨(wrap64 (x4_2 + 1)), (wrap64 (x29_2 + 1)), z31_1, z31_1, H', ⟨by have := HK1.out; have := HK2.out; omega⟩, ⟨bu BK371.out⟩, ⟨z31_6⟩⟩
             ·replace c17 := Bool.eq_false_iff.mpr c17
              subst c17
              have H1 : (impl_ProgOk.l1 k2 (wrap64 (x3_1 + ((rd_L7 l0_0 x16_1).length : Int))) x4_2 l0_0 (l0_0.length : Int) x16_1 (rd_L7 l0_0 x16_1) ((rd_L7 l0_0 x16_1).length : Int) (wrap64 (x29_2 + 1))) = some r := by rw [if_neg (show ¬ (false = true) by decide)] at H; exact H
              clear H
              have H := H1
              clear H1
              have H' := am_ H
              clear H
              have p374 : 0 ≤ (x29_2 : Int) := of_decide_eq_true z31_2
              have q374 : x29_2 < ((rd_L7 l0_0 x16_1).length : Int) := of_decide_eq_true z31_2
              obtain ⟨ad374, e374, hx374_0, hx374_1, hx374_2⟩ := at_T85 HR372_0.out x29_2 p374 q374
              cases e374
              replace hx374_0 := (HB.out.cell (World.block_lt_of_cell? w _ hx374_0)).trans hx374_0
              replace hx374_1 := (HB.out.cell (World.block_lt_of_cell? w _ hx374_1)).trans hx374_1
              replace hx374_2 := (HB.out.cell (World.block_lt_of_cell? w _ hx374_2)).trans hx374_2
              replace p374 := eq_true p374
              replace q374 := eq_true q374
              go_wp2_with (first | ((with_reducible refine gate_dst (N := 8) rfl ?_); refine box_event ?hg (N := 8) ?hd (cs := #[.int .i64 0, .int .i64 0, .int .i64 0]) (t := 85) ?hr ?_; (case hd => rfl); (case hg => rfl); (case hr => first | (go_simp; done) | (go_simp; rfl)); intro gb375 hg w22 hbox hb; have n0_ := am_ (blk_below (bu BK371.out) hb); have n1_ := am_ (below_step z31_5 hb); have n2_ := am_ (hbox); have n3_ := am_ (by rw [hg]; exact (below_size z31_5) : w.heap.size ≤ gb375); have n4_ := am_ (by rw [hg]; exact (below_size z31_5) : w.heap.size ≤ gb375); have n5_ := am_ (by rw [hg]; exact Nat.ne_of_lt (blk_lt (bu BK371.out)) : gb371 ≠ gb375); have n6_ := am_ (by rw [hg]; exact Nat.ne_of_gt (blk_lt (bu BK371.out)) : gb375 ≠ gb371); clear BK371 HB; have BK371 := n0_; have HB := n1_; have BK375 := n2_; have GW375 := n3_; have GE375 := n4_; have NB371_375 := n5_; have NB375_371 := n6_; clear n0_ n1_ n2_ n3_ n4_ n5_ n6_; clear hb hbox hg; have hnb23 := NB375_371.out; have hnc23 := NB371_375.out; have hcz24_0 : w22.cell? ⟨gb375, 0, none⟩ = some (.int .i64 0) := (blk_cell BK375.out 0).trans rfl; have hcz24_1 : w22.cell? ⟨gb375, 1, none⟩ = some (.int .i64 0) := (blk_cell BK375.out 1).trans rfl; have hcz24_2 : w22.cell? ⟨gb375, 2, none⟩ = some (.int .i64 0) := (blk_cell BK375.out 2).trans rfl; have hfz24_0 := blk_frozen BK375.out 0; have hfz24_1 := blk_frozen BK375.out 1; have hfz24_2 := blk_frozen BK375.out 2) | ((with_reducible refine gate_callee (f := 78) rfl ?_); refine goesL_ (some 34) rfl rfl Try.func78 (by kernel_rfl) rfl #[.agg #[.int .i64 ((rd_T85 (rd_L7 l0_0 x16_1) x29_2).f0), .int .i64 ((rd_T85 (rd_L7 l0_0 x16_1) x29_2).f1), .int .i64 ((rd_T85 (rd_L7 l0_0 x16_1) x29_2).f2)]] rfl (by (try simp only [List.map_toArray, List.map_cons, List.map_nil]); first | done | rfl | (simp only [List.length_drop, List.length_take]; rfl)) ?_; (with_reducible refine (impl_Do_uses.calls ((rd_T85 (rd_L7 l0_0 x16_1) x29_2).f0) ((rd_T85 (rd_L7 l0_0 x16_1) x29_2).f1) ((rd_T85 (rd_L7 l0_0 x16_1) x29_2).f2) false _ A16.out).mono ?_); rintro e w25 ⟨rfl, hb⟩; refine ⟨_, rfl, ?_⟩; have n0_ := am_ (blk_below (g := gb371) (o := .cells #[.slice (some ad372) l0_0.length c0_0] 35 (0, 0)) z31_7 hb); have n1_ := am_ (blk_below (g := gb375) (o := .cells #[.int .i64 ((rd_T85 (rd_L7 l0_0 x16_1) x29_2).f0), .int .i64 ((rd_T85 (rd_L7 l0_0 x16_1) x29_2).f1), .int .i64 ((rd_T85 (rd_L7 l0_0 x16_1) x29_2).f2)] 85 (0, 0)) z31_8 hb); have n2_ := am_ (below_step z31_6 hb); clear BK371 BK375 HB; have BK371 := n0_; have BK375 := n1_; have HB := n2_; clear n0_ n1_ n2_; (try clear hb); (try clear hb2); (try clear hk); (try clear hi)))
              go_roundg k2
              case measure => have := HK1.out; have := HK2.out; omega
              case rel => exact ⟨(x4_2), (wrap64 (x29_2 + 1)), z31_1, z31_1, H', ⟨by have := HK1.out; have := HK2.out; omega⟩, ⟨bu BK371.out⟩, ⟨z31_6⟩⟩
            ·rw [if_neg c15] at H
             exact absurd H (by simp)
           ·rw [if_neg c14] at H
            exact absurd H (by simp)
          ·rw [if_neg c13] at H
           have c13b0 : decide (x29_2 < ((rd_L7 l0_0 x16_1).length : Int)) = false := decide_eq_false c13
           clear c13
           have H' := am_ H
           clear H
           go_wp2
           go_roundg k2
           case measure => have := HK1.out; have := HK2.out; omega
           case rel => exact ⟨((wrap64 (x3_1 + ((rd_L7 l0_0 x16_1).length : Int)))), (x4_2), (wrap64 (x16_1 + 1)), z31_1, z31_1, z31_1, H', ⟨by have := HK1.out; have := HK2.out; omega⟩, ⟨bu BK371.out⟩, ⟨z31_5⟩⟩
       ·replace c11 := Bool.eq_false_iff.mpr c11
        subst c11
        have H1 : (some false) = some r := by rw [if_neg (show ¬ (false = true) by decide)] at H; exact H
        clear H
        have H := H1
        clear H1
        obtain rfl := Option.some.inj H
        have p372 : 0 ≤ (x16_1 : Int) := of_decide_eq_true z31_2
        have q372 : x16_1 < (l0_0.length : Int) := of_decide_eq_true z31_2
        obtain ⟨ad372, A372_0, c372_0, e372, hx372_0, hl372_0, hi372_0⟩ := at_L7 HR0_0.out x16_1 p372 q372
        cases e372
        replace hx372_0 := (HB.out.cell (World.block_lt_of_cell? w _ hx372_0)).trans hx372_0
        have HR372_0 := am_ hi372_0
        have HC372_0 := am_ hl372_0
        clear hi372_0 hl372_0
        replace p372 := eq_true p372
        replace q372 := eq_true q372
        go_wp2_with (first | ((with_reducible refine gate_callee (f := 77) rfl ?_); refine goesL_ (some 21) rfl rfl Try.func77 (by kernel_rfl) rfl #[.slice A372_0 (rd_L7 l0_0 x16_1).length c372_0] rfl (by (try simp only [List.map_toArray, List.map_cons, List.map_nil]); first | done | rfl | (simp only [List.length_drop, List.length_take]; rfl)) ?_; (with_reducible refine (impl_threadOk.calls k1 _ _ (rd_L7 l0_0 x16_1) false _ ?side1 ?side2 A10.out).mono ?_); (case side1 => repeat (first | exact (Kd.C_below HR372_0.out HB.out) | (with_reducible refine Kd.C_alloc ?_ _) | (with_reducible refine Kd.C_drewN ?_ _) | (with_reducible refine Kd.C_drew ?_))); (case side2 => exact HC372_0.out); rintro e w26 ⟨rfl, hb⟩; refine ⟨_, rfl, ?_⟩; have n0_ := am_ (blk_below (bu BK371.out) hb); have n1_ := am_ (below_step z31_5 hb); clear BK371 HB; have BK371 := n0_; have HB := n1_; clear n0_ n1_; (try clear hb); (try clear hb2); (try clear hk); (try clear hi)))
        go_ret
        exact ⟨z31_3, z31_5⟩
      ·rw [if_neg c9] at H
       exact absurd H (by simp)
     ·rw [if_neg c8] at H
      exact absurd H (by simp)
    ·rw [if_neg c7] at H
     have c7b0 : decide (x16_1 < (l0_0.length : Int)) = false := decide_eq_false c7
     clear c7
     by_cases c27 : x3_1 ≤ 14
     ·rw [if_pos c27] at H
      have c27b0 : decide (x3_1 ≤ 14) = true := decide_eq_true c27
      clear c27
      obtain rfl := Option.some.inj H
      go_wp2
      go_ret
      exact ⟨z31_3, z31_5⟩
     ·rw [if_neg c27] at H
      have c27b0 : decide (x3_1 ≤ 14) = false := decide_eq_false c27
      clear c27
      obtain rfl := Option.some.inj H
      go_wp2
      go_ret
      exact ⟨z31_3, z31_5⟩

end Go.Proofs.Ytefkbmhkhpekjaa.PB

namespace Go.Proofs.Ytefkbmhkhpekjaa.PB
open Go.RowKit Go.Proofs.YtefkbmhkhpekjaaW.PrintWords Go.Proofs.YtefkbmhkhpekjaaW.PrintLast Go.Proofs.YtefkbmhkhpekjaaW.PrintMore
attribute [local go_sem] max2_int min2_int max_two min_two max_three min_three max_four min_four   -- for this text's walks alone
open Go.Proofs.YtefkbmhkhpekjaaMine
set_option linter.unusedVariables false
set_option linter.unusedSimpArgs false

theorem z133_1 {p : Prop} (h : p := by first | rfl | (simp; done) | (simp [*]; done)) : p := h
theorem z133_2 {p : Prop} (h : p := by first | (with_reducible assumption) | assumption) : p := h
theorem z133_3 {p : Prop} (h : p := by repeat (first | exact Drawn0.refl _ | apply Drawn0.step)) : p := h
/-! ### slices_Index_int_int: function 133 -/
def slices_Index_int_int.l0 : Nat → List Int → Int → Int → Int → Option (Int)
  | 0, _, _, _, _ => none
  | k + 1, x0, x1, x7, x8 => if x8 < x7 then (if 0 ≤ x8 then (if x8 < (x0.length : Int) then (if x1 = (rd x0 x8) then (some x8) else (slices_Index_int_int.l0 k x0 x1 x7 (wrap64 (x8 + 1)))) else (none)) else (none)) else (some (-1))
def slices_Index_int_int.f (k : Nat) (l0 : List Int) (a1 : Int) : Option (Int) := slices_Index_int_int.l0 k l0 a1 (l0.length : Int) 0
theorem slices_Index_int_int.mono_l : ∀ k, (∀ y0 y1 y2 y3, LeO (slices_Index_int_int.l0 k y0 y1 y2 y3) (slices_Index_int_int.l0 (k + 1) y0 y1 y2 y3))
  | 0 => fun _ _ _ _ r h => by simp [slices_Index_int_int.l0] at h
  | k + 1 => by
    have ih0 := slices_Index_int_int.mono_l k
    · intro y0 y1 y2 y3
      unfold slices_Index_int_int.l0
      repeat' first
      | (with_reducible exact ih0 _ _ _ _)
      | (with_reducible exact LeO.refl _)
      | (with_reducible exact LeO.none _)
      | (with_reducible refine LeO.ite ?_ ?_)
      | (with_reducible refine LeO.bind ?_ (fun _ => ?_))
      | exact ih0 _ _ _ _
      | exact LeO.none _
      | refine LeO.ite ?_ ?_
      | refine LeO.bind ?_ (fun _ => ?_)
theorem slices_Index_int_int.mono : ∀ a0 a1 k, LeO (slices_Index_int_int.f k a0 a1) (slices_Index_int_int.f (k + 1) a0 a1) := by
  intro a0 a1 k
  have ih0 := slices_Index_int_int.mono_l k
  unfold slices_Index_int_int.f
  repeat' first
      | (with_reducible exact ih0 _ _ _ _)
      | (with_reducible exact LeO.refl _)
      | (with_reducible exact LeO.none _)
      | (with_reducible refine LeO.ite ?_ ?_)
      | (with_reducible refine LeO.bind ?_ (fun _ => ?_))
      | exact ih0 _ _ _ _
      | exact LeO.none _
      | refine LeO.ite ?_ ?_
      | refine LeO.bind ?_ (fun _ => ?_)
set_option maxHeartbeats 8000000 in
set_option maxRecDepth 100000 in
theorem slices_Index_int_int.calls (k : Nat) (A0 : Option Addr) (c0 : Nat) (l0 : List Int) (a1 : Int) (r : Int) (w : World) (hr0 : Kd.C (Kd.int .i64) w A0 l0.length l0) (hc0 : l0.length ≤ c0) (h : slices_Index_int_int.f k l0 a1 = some r) :
  Calls Try.prog 133 #[.slice A0 l0.length c0, .int .i64 a1] w fun e w' => e = .returned (.int .i64 r) ∧ Drawn0 w w' := by
 have HR0 := am_ hr0
 have HC0 := am_ hc0
 clear hr0 hc0
 have H : (slices_Index_int_int.l0 k l0 a1 (l0.length : Int) 0) = some r := h
 clear h
 have H' := am_ H
 clear H
 go_enter Try.func133, Try.ntmps133
 go_wp2
 go_loopg [8] k (fun kq v8 w' => ∃ (x8_1 : Int), v8 = .int .i64 x8_1 ∧ Aside0 (slices_Index_int_int.l0 kq l0 a1 (l0.length : Int) x8_1 = some r) ∧ Aside0 (kq ≤ k) ∧ Drawn0 w w')
 case atStart => exact ⟨(0), z133_1, H', ⟨Nat.le_refl _⟩, z133_3⟩
 case round =>
  clear H'
  obtain ⟨x8_1, rfl, HA, HK1, ⟨m1, rfl⟩⟩ := hrel
  cases gk with
  | zero => exact absurd HA.out (by simp [slices_Index_int_int.l0])
  | succ k1 =>
   have H := HA.out
   clear HA
   simp only [slices_Index_int_int.l0] at H
   by_cases c3 : x8_1 < (l0.length : Int)
   ·rw [if_pos c3] at H
    have c3b0 : decide (x8_1 < (l0.length : Int)) = true := decide_eq_true c3
    clear c3
    by_cases c4 : 0 ≤ x8_1
    ·rw [if_pos c4] at H
     have c4b0 : decide (0 ≤ x8_1) = true := decide_eq_true c4
     clear c4
     by_cases c5 : x8_1 < (l0.length : Int)
     ·rw [if_pos c5] at H
      have c5b0 : decide (x8_1 < (l0.length : Int)) = true := decide_eq_true c5
      clear c5
      by_cases c6 : a1 = (rd l0 x8_1)
      ·rw [if_pos c6] at H
       have c6b0 : (a1 == (rd l0 x8_1)) = true := beq_iff_eq.mpr c6
       have c6b1 : (a1 != (rd l0 x8_1)) = false := bne_eq_false_iff_eq.mpr c6
       clear c6
       obtain rfl := Option.some.inj H
       have p456 : 0 ≤ (x8_1 : Int) := of_decide_eq_true z133_2
       have q456 : x8_1 < (l0.length : Int) := of_decide_eq_true z133_2
       obtain ⟨ad456, e456, hx456_0⟩ := Kd.at_int HR0.out x8_1 p456 q456
       cases e456
       replace p456 := eq_true p456
       replace q456 := eq_true q456
       go_wp2
       go_ret
       exact ⟨z133_1, z133_3⟩
      ·rw [if_neg c6] at H
       have c6b0 : (a1 == (rd l0 x8_1)) = false := beq_eq_false_iff_ne.mpr c6
       have c6b1 : (a1 != (rd l0 x8_1)) = true := bne_iff_ne.mpr c6
       have H' := am_ H
       clear H
       have p456 : 0 ≤ (x8_1 : Int) := of_decide_eq_true z133_2
       have q456 : x8_1 < (l0.length : Int) := of_decide_eq_true z133_2
       obtain ⟨ad456, e456, hx456_0⟩ := Kd.at_int HR0.out x8_1 p456 q456
       cases e456
       replace p456 := eq_true p456
       replace q456 := eq_true q456
       go_wp2
       go_roundg k1
       case measure => have := HK1.out; omega
       case rel => exact ⟨(wrap64 (x8_1 + 1)), z133_1, H', ⟨by have := HK1.out; omega⟩, z133_3⟩
     ·rw [if_neg c5] at H
      exact absurd H (by simp)
    ·rw [if_neg c4] at H
     exact absurd H (by simp)
   ·rw [if_neg c3] at H
    have c3b0 : decide (x8_1 < (l0.length : Int)) = false := decide_eq_false c3
    clear c3
    obtain rfl := Option.some.inj H
    go_wp2
    go_ret
    exact ⟨z133_1, z133_3⟩

end Go.Proofs.Ytefkbmhkhpekjaa.PB

namespace Go.Proofs.Ytefkbmhkhpekjaa.PB
open Go.RowKit Go.Proofs.YtefkbmhkhpekjaaW.PrintWords Go.Proofs.YtefkbmhkhpekjaaW.PrintLast Go.Proofs.YtefkbmhkhpekjaaW.PrintMore
attribute [local go_sem] max2_int min2_int max_two min_two max_three min_three max_four min_four   -- for this text's walks alone
open Go.Proofs.YtefkbmhkhpekjaaMine
set_option linter.unusedVariables false
set_option linter.unusedSimpArgs false

/-! ### slices_Contains_int_int: function 120 -/
def slices_Contains_int_int.f (k : Nat) (l0 : List Int) (a1 : Int) : Option (Bool) := (slices_Index_int_int.f k l0 a1).bind fun t457 => (some (decide (t457 ≥ 0)))
theorem slices_Contains_int_int.mono : ∀ a0 a1 k, LeO (slices_Contains_int_int.f k a0 a1) (slices_Contains_int_int.f (k + 1) a0 a1) := by
  intro a0 a1 k
  unfold slices_Contains_int_int.f
  repeat' first
      | (with_reducible exact slices_Index_int_int.mono _ _ _)
      | (with_reducible exact LeO.refl _)
      | (with_reducible exact LeO.none _)
      | (with_reducible refine LeO.ite ?_ ?_)
      | (with_reducible refine LeO.bind ?_ (fun _ => ?_))
      | exact slices_Index_int_int.mono _ _ _
      | exact LeO.none _
      | refine LeO.ite ?_ ?_
      | refine LeO.bind ?_ (fun _ => ?_)
set_option maxHeartbeats 8000000 in
set_option maxRecDepth 100000 in
theorem slices_Contains_int_int.calls (k : Nat) (A0 : Option Addr) (c0 : Nat) (l0 : List Int) (a1 : Int) (r : Bool) (w : World) (hr0 : Kd.C (Kd.int .i64) w A0 l0.length l0) (hc0 : l0.length ≤ c0) (h : slices_Contains_int_int.f k l0 a1 = some r) :
  Calls Try.prog 120 #[.slice A0 l0.length c0, .int .i64 a1] w fun e w' => e = .returned (.bool r) ∧ Drawn0 w w' := by
 have HR0 := am_ hr0
 have HC0 := am_ hc0
 clear hr0 hc0
 have H : ((slices_Index_int_int.f k l0 a1).bind fun t457 => (some (decide (t457 ≥ 0)))) = some r := h
 clear h
 replace H := Option.bind_eq_some_iff.mp H
 obtain ⟨t457, A30, H⟩ := H
 replace H : (some (decide (t457 ≥ 0))) = some r := H
 have A3 := am_ A30
 clear A30
 obtain rfl := Option.some.inj H
 go_enter Try.func120, Try.ntmps120
 go_wp2_with (first | ((with_reducible refine gate_callee (f := 133) rfl ?_); refine goesL_ (some 7) rfl rfl Try.func133 (by kernel_rfl) rfl #[.slice A0 l0.length c0, .int .i64 a1] rfl (by (try simp only [List.map_toArray, List.map_cons, List.map_nil]); first | done | rfl | (simp only [List.length_drop, List.length_take]; rfl)) ?_; (with_reducible refine (slices_Index_int_int.calls k _ _ l0 a1 t457 _ ?side1 ?side2 A3.out).mono ?_); (case side1 => repeat (first | exact HR0.out | (with_reducible refine Kd.C_alloc ?_ _) | (with_reducible refine Kd.C_drewN ?_ _) | (with_reducible refine Kd.C_drew ?_))); (case side2 => exact HC0.out); rintro e w' ⟨rfl, ⟨nd, rfl⟩⟩; refine ⟨_, rfl, ?_⟩))
 go_ret
 exact ⟨by first | rfl | (simp; done) | (simp [*]; done), by repeat (first | exact Drawn0.refl _ | apply Drawn0.step)⟩

end Go.Proofs.Ytefkbmhkhpekjaa.PB

namespace Go.Proofs.Ytefkbmhkhpekjaa.PB
open Go.RowKit Go.Proofs.YtefkbmhkhpekjaaW.PrintWords Go.Proofs.YtefkbmhkhpekjaaW.PrintLast Go.Proofs.YtefkbmhkhpekjaaW.PrintMore
attribute [local go_sem] max2_int min2_int max_two min_two max_three min_three max_four min_four   -- for this text's walks alone
open Go.Proofs.YtefkbmhkhpekjaaMine
set_option linter.unusedVariables false
set_option linter.unusedSimpArgs false

theorem z97_1 {p : Prop} (h : p := by first | rfl | (simp; done) | (simp [*]; done)) : p := h
theorem z97_2 {p : Prop} (h : p := by repeat (first | exact Drawn0.refl _ | apply Drawn0.step)) : p := h
/-! ### impl_isRow: function 97 -/
def impl_isRow.l0 : Nat → List Int → Int → Int → Option (Bool)
  | 0, _, _, _ => none
  | k + 1, x0, x10, x11 => if x11 < x10 then ((slices_Contains_int_int.f k x0 x11).bind fun t984 => (if t984 = true then (impl_isRow.l0 k x0 x10 (wrap64 (x11 + 1))) else (some false))) else (some true)
def impl_isRow.f (k : Nat) (l0 : List Int) (a1 : Int) : Option (Bool) := if (l0.length : Int) = a1 then (impl_isRow.l0 k l0 a1 0) else (some false)
theorem impl_isRow.mono_l : ∀ k, (∀ y0 y1 y2, LeO (impl_isRow.l0 k y0 y1 y2) (impl_isRow.l0 (k + 1) y0 y1 y2))
  | 0 => fun _ _ _ r h => by simp [impl_isRow.l0] at h
  | k + 1 => by
    have ih0 := impl_isRow.mono_l k
    · intro y0 y1 y2
      unfold impl_isRow.l0
      repeat' first
      | (with_reducible exact ih0 _ _ _)
      | (with_reducible exact slices_Contains_int_int.mono _ _ _)
      | (with_reducible exact LeO.refl _)
      | (with_reducible exact LeO.none _)
      | (with_reducible refine LeO.ite ?_ ?_)
      | (with_reducible refine LeO.bind ?_ (fun _ => ?_))
      | exact ih0 _ _ _
      | exact slices_Contains_int_int.mono _ _ _
      | exact LeO.none _
      | refine LeO.ite ?_ ?_
      | refine LeO.bind ?_ (fun _ => ?_)
theorem impl_isRow.mono : ∀ a0 a1 k, LeO (impl_isRow.f k a0 a1) (impl_isRow.f (k + 1) a0 a1) := by
  intro a0 a1 k
  have ih0 := impl_isRow.mono_l k
  unfold impl_isRow.f
  repeat' first
      | (with_reducible exact ih0 _ _ _)
      | (with_reducible exact slices_Contains_int_int.mono _ _ _)
      | (with_reducible exact LeO.refl _)
      | (with_reducible exact LeO.none _)
      | (with_reducible refine LeO.ite ?_ ?_)
      | (with_reducible refine LeO.bind ?_ (fun _ => ?_))
      | exact ih0 _ _ _
      | exact slices_Contains_int_int.mono _ _ _
      | exact LeO.none _
      | refine LeO.ite ?_ ?_
      | refine LeO.bind ?_ (fun _ => ?_)
set_option maxHeartbeats 8000000 in
set_option maxRecDepth 100000 in
theorem impl_isRow.calls (k : Nat) (A0 : Option Addr) (c0 : Nat) (l0 : List Int) (a1 : Int) (r : Bool) (w : World) (hr0 : Kd.C (Kd.int .i64) w A0 l0.length l0) (hc0 : l0.length ≤ c0) (h : impl_isRow.f k l0 a1 = some r) :
  Calls Try.prog 97 #[.slice A0 l0.length c0, .int .i64 a1] w fun e w' => e = .returned (.bool r) ∧ Drawn0 w w' := by
 have HR0 := am_ hr0
 have HC0 := am_ hc0
 clear hr0 hc0
 have H : (if (l0.length : Int) = a1 then (impl_isRow.l0 k l0 a1 0) else (some false)) = some r := h
 clear h
 by_cases c3 : (l0.length : Int) = a1
 ·rw [if_pos c3] at H
  have c3b0 : ((l0.length : Int) == a1) = true := beq_iff_eq.mpr c3
  have c3b1 : ((l0.length : Int) != a1) = false := bne_eq_false_iff_eq.mpr c3
  clear c3
  have H' := am_ H
  clear H
  go_enter Try.func97, Try.ntmps97
  go_wp2
  go_loopg [11] k (fun kq v11 w' => ∃ (x11_1 : Int), v11 = .int .i64 x11_1 ∧ Aside0 (impl_isRow.l0 kq l0 a1 x11_1 = some r) ∧ Aside0 (kq ≤ k) ∧ Drawn0 w w')
  case atStart => exact ⟨(0), z97_1, H', ⟨Nat.le_refl _⟩, z97_2⟩
  case round =>
   clear H'
   obtain ⟨x11_1, rfl, HA, HK1, ⟨m1, rfl⟩⟩ := hrel
   cases gk with
   | zero => exact absurd HA.out (by simp [impl_isRow.l0])
   | succ k1 =>
    have H := HA.out
    clear HA
    simp only [impl_isRow.l0] at H
    by_cases c4 : x11_1 < a1
    ·rw [if_pos c4] at H
     have c4b0 : decide (x11_1 < a1) = true := decide_eq_true c4
     clear c4
     replace H := Option.bind_eq_some_iff.mp H
     obtain ⟨t984, A50, H⟩ := H
     replace H : (if t984 = true then (impl_isRow.l0 k1 l0 a1 (wrap64 (x11_1 + 1))) else (some false)) = some r := H
     have A5 := am_ A50
     clear A50
     by_cases c6 : t984 = true
     ·subst c6
      have H1 : (impl_isRow.l0 k1 l0 a1 (wrap64 (x11_1 + 1))) = some r := by rw [if_pos rfl] at H; exact H
      clear H
      have H := H1
      clear H1
      have H' := am_ H
      clear H
      go_wp2_with (first | ((with_reducible refine gate_callee (f := 120) rfl ?_); refine goesL_ (some 16) rfl rfl Try.func120 (by kernel_rfl) rfl #[.slice A0 l0.length c0, .int .i64 x11_1] rfl (by (try simp only [List.map_toArray, List.map_cons, List.map_nil]); first | done | rfl | (simp only [List.length_drop, List.length_take]; rfl)) ?_; (with_reducible refine (slices_Contains_int_int.calls k1 _ _ l0 x11_1 true _ ?side1 ?side2 A5.out).mono ?_); (case side1 => repeat (first | exact HR0.out | (with_reducible refine Kd.C_alloc ?_ _) | (with_reducible refine Kd.C_drewN ?_ _) | (with_reducible refine Kd.C_drew ?_))); (case side2 => exact HC0.out); rintro e w' ⟨rfl, ⟨nd, rfl⟩⟩; refine ⟨_, rfl, ?_⟩))
      go_roundg k1
      case measure => have := HK1.out; omega
      case rel => exact ⟨(wrap64 (x11_1 + 1)), z97_1, H', ⟨by have := HK1.out; omega⟩, z97_2⟩
     ·replace c6 := Bool.eq_false_iff.mpr c6
      subst c6
      have H1 : (some false) = some r := by rw [if_neg (show ¬ (false = true) by decide)] at H; exact H
      clear H
      have H := H1
      clear H1
      obtain rfl := Option.some.inj H
      go_wp2_with (first | ((with_reducible refine gate_callee (f := 120) rfl ?_); refine goesL_ (some 16) rfl rfl Try.func120 (by kernel_rfl) rfl #[.slice A0 l0.length c0, .int .i64 x11_1] rfl (by (try simp only [List.map_toArray, List.map_cons, List.map_nil]); first | done | rfl | (simp only [List.length_drop, List.length_take]; rfl)) ?_; (with_reducible refine (slices_Contains_int_int.calls k1 _ _ l0 x11_1 false _ ?side1 ?side2 A5.out).mono ?_); (case side1 => repeat (first | exact HR0.out | (with_reducible refine Kd.C_alloc ?_ _) | (with_reducible refine Kd.C_drewN ?_ _) | (with_reducible refine Kd.C_drew ?_))); (case side2 => exact HC0.out); rintro e w' ⟨rfl, ⟨nd, rfl⟩⟩; refine ⟨_, rfl, ?_⟩))
      go_ret
      exact ⟨z97_1, z97_2⟩
    ·rw [if_neg c4] at H
     have c4b0 : decide (x11_1 < a1) = false := decide_eq_false c4
     clear c4
     obtain rfl := Option.some.inj H
     go_wp2
     go_ret
     exact ⟨z97_1, z97_2⟩
 ·rw [if_neg c3] at H
  have c3b0 : ((l0.length : Int) == a1) = false := beq_eq_false_iff_ne.mpr c3
  have c3b1 : ((l0.length : Int) != a1) = true := bne_iff_ne.mpr c3
  obtain rfl := Option.some.inj H
  go_enter Try.func97, Try.ntmps97
  go_wp2
  go_ret
  exact ⟨z97_1, z97_2⟩

end Go.Proofs.Ytefkbmhkhpekjaa.PB

namespace Go.Proofs.Ytefkbmhkhpekjaa.PB
open Go.RowKit Go.Proofs.YtefkbmhkhpekjaaW.PrintWords Go.Proofs.YtefkbmhkhpekjaaW.PrintLast Go.Proofs.YtefkbmhkhpekjaaW.PrintMore
attribute [local go_sem] max2_int min2_int max_two min_two max_three min_three max_four min_four   -- for this text's walks alone
open Go.Proofs.YtefkbmhkhpekjaaMine
set_option linter.unusedVariables false
set_option linter.unusedSimpArgs false

/-! ### impl_Do_98: function 98 -/
def impl_Do_98.f (l0 : List S85) : Option (List S85) := if l0.length < 1048577 then some l0 else none
set_option maxRecDepth 100000 in
set_option maxHeartbeats 800000 in
theorem impl_Do_98.calls (A0 : Option Addr) (c0 : Nat) (l0 : List S85) (r : List S85) (w : World) (hr0 : Kd.C k85 w A0 l0.length l0) (hc0 : l0.length ≤ c0) (h : impl_Do_98.f l0 = some r) :
  Calls Try.prog 98 #[.slice A0 l0.length c0] w fun e w' => ∃ v0_ : Value, e = .returned (v0_) ∧ Kd.R k85 85 w' w.heap.size (fun _ => True) v0_ r ∧ Below w.heap.size w w' := by
 unfold impl_Do_98.f at h
 split at h
 ·rename_i hl
  injection h with h; subst h
  have qT : ∀ (w : World) (a : Option Addr) (n c n' c' : Nat), (binOp .eql 82 (.slice a n c) (.slice none n' c')).run Try.prog w = .ok (.bool a.isNone) w := fun w a n c n' c' => Lib.run_eql_slice_nil w _ _ a n c n' c' Try.underlying82
  rcases A0 with _ | ad
  ·obtain rfl := nil_of_none hr0
   go_enter Try.func98, Try.ntmps98
   go_wp2_with fail
   go_ret
   exact ⟨_, rfl, Kd.R_nil _ _ _ _ _, Below.refl _ _⟩
  ·go_enter Try.func98, Try.ntmps98
   go_wp2_with (at_builtin; refine park ?_)
   refine ⟨?_⟩
   refine Kd.R_append_rows k85 (Rr := k85.K (w.alloc (Obj.cells #[] 85))) (w0 := w) w.heap.size (by rfl) (.tmp 5) (.tmp 6) 82 85 (.agg #[(.int .i64 0), (.int .i64 0), (.int .i64 0)]) 24 rfl Try.underlying82 info85 rfl (by decide) (by omega) (.slice (some ⟨w.heap.size, 0, none⟩) 0 0) [] l0 (some ad) l0.length c0 (fun _ => True) (fun _ => False) rfl rfl ?aO ?aR ?aK (fun _ h => h.elim) (fun _ _ => trivial) ?aB (by simp) ?aL ?_
   case aO => exact R_empty _ _ _ _ _ (Nat.le_refl _) trivial
   case aR => exact C_rows (Kd.C_below hr0 (below_alloc (Below.refl _ _) _))
   case aK => intro x cs hx; rw [k85_open hx]; exact k85_mkM _ _ _ _
   case aB => exact below_alloc (Below.refl _ _) _
   case aL => simp; omega
   intro v1 w1 ho1 hb1 _ _
   go_wp2_with fail
   go_ret
   exact ⟨_, rfl, by simpa using ho1, hb1⟩
 ·cases h


end Go.Proofs.Ytefkbmhkhpekjaa.PB

namespace Go.Proofs.Ytefkbmhkhpekjaa.PB
open Go.RowKit Go.Proofs.YtefkbmhkhpekjaaW.PrintWords Go.Proofs.YtefkbmhkhpekjaaW.PrintLast Go.Proofs.YtefkbmhkhpekjaaW.PrintMore
attribute [local go_sem] max2_int min2_int max_two min_two max_three min_three max_four min_four   -- for this text's walks alone
open Go.Proofs.YtefkbmhkhpekjaaMine
set_option linter.unusedVariables false
set_option linter.unusedSimpArgs false

theorem z47_1 {p : Prop} (h : p := by first | rfl | (simp; done) | (simp [*]; done)) : p := h
theorem z47_2 {p : Prop} (h : p := by first | (with_reducible assumption) | assumption) : p := h
theorem z47_3 {p : Prop} (h : p := by first | rfl | (simp [errW_none, errW_some] <;> rfl) | (simp [*, errW_none, errW_some] <;> rfl)) : p := h
theorem z47_4 {p : Prop} (h : p := by repeat (first | (with_reducible first | exact HB.out | apply below_alloc | apply pw_below_drewN | apply below_drew1) | exact HB.out)) : p := h
theorem z47_5 {p : Prop} (h : p := by first | exact Kd.S_nil _ _ _ _ _ | exact Kd.N_nil _ _ _ _ _ | exact Kd.V_nil _ _ _ _ _ | exact Kd.Q_nil _ _ _ _ _ | exact Kd.R_nil _ _ _ _ _) : p := h
theorem z47_6 {p : Prop} (h : p := by repeat (first | (with_reducible first | exact HB.out | apply below_alloc | apply pw_below_drewN | apply below_drew1 | refine below_set ?_ GE985.out) | exact HB.out)) : p := h
theorem z47_7 {p : Prop} (h : p := by repeat (first | (with_reducible first | exact HB.out | apply below_alloc | apply pw_below_drewN | apply below_drew1 | refine below_set ?_ GE985.out | refine below_set ?_ GE986.out) | exact HB.out)) : p := h
theorem z47_8 {p : Prop} (h : p := by repeat (first | (with_reducible first | exact HB.out | apply below_alloc | apply pw_below_drewN | apply below_drew1 | refine below_set ?_ GE985.out | refine below_set ?_ GE986.out | refine below_set ?_ GE989.out) | exact HB.out)) : p := h
theorem z47_9 {p : Prop} (h : p := by (with_reducible repeat (first | refine blk_drewN ?_ _ | refine blk_drew ?_ | refine blk_alloc ?_ _)); refine blk_put (cs := #[.slice none 0 0]) ?_ 0 _ rfl; (with_reducible repeat (first | refine blk_drewN ?_ _ | refine blk_drew ?_ | refine blk_alloc ?_ _)); exact BK986.out) : p := h
/-! ### impl_TurnThreads: function 47 -/
mutual
def impl_TurnThreads.j0 : Nat → List Int → Bool → List (List (S85)) → Option ((List (List (S85))) × Bool)
  | 0, _, _, _ => none
  | k + 1, x1, x19, x986000 => if x19 = true then (some (([] : List (List (S85))), false)) else (impl_TurnThreads.l0 k x1 (x1.length : Int) 0 x986000 ([] : List (List (S85))))
def impl_TurnThreads.l0 : Nat → List Int → Int → Int → List (List (S85)) → List (List (S85)) → Option ((List (List (S85))) × Bool)
  | 0, _, _, _, _, _ => none
  | k + 1, x21, x22, x23, x986000, x990000 => if x23 < x22 then (if 0 ≤ x23 then (if x23 < (x21.length : Int) then (if 0 ≤ (rd x21 x23) then (if (rd x21 x23) < (x986000.length : Int) then ((impl_Do_98.f (rd_L7 x986000 (rd x21 x23))).bind fun t992 => (if x990000.length < 5864062014805 then (impl_TurnThreads.l0 k x21 x22 (wrap64 (x23 + 1)) x986000 (x990000 ++ [t992])) else (none))) else (none)) else (none)) else (none)) else (none)) else (some (x990000, true))
end
def impl_TurnThreads.f (k : Nat) (l0_0 : List (List (S85))) (l1 : List Int) : Option ((List (List (S85))) × Bool) := (impl_ProgOk.f k l0_0).bind fun t987 => (if t987 = true then ((impl_isRow.f k l1 (l0_0.length : Int)).bind fun t988 => (impl_TurnThreads.j0 k l1 (!t988) l0_0)) else (impl_TurnThreads.j0 k l1 true l0_0))
theorem impl_TurnThreads.mono_l : ∀ k, (∀ y0 y1 y2, LeO (impl_TurnThreads.j0 k y0 y1 y2) (impl_TurnThreads.j0 (k + 1) y0 y1 y2)) ∧ (∀ y0 y1 y2 y3 y4, LeO (impl_TurnThreads.l0 k y0 y1 y2 y3 y4) (impl_TurnThreads.l0 (k + 1) y0 y1 y2 y3 y4))
  | 0 => ⟨fun _ _ _ r h => by simp [impl_TurnThreads.j0] at h, fun _ _ _ _ _ r h => by simp [impl_TurnThreads.l0] at h⟩
  | k + 1 => by
    obtain ⟨ih0, ih1⟩ := impl_TurnThreads.mono_l k
    refine ⟨?_, ?_⟩
    · intro y0 y1 y2
      unfold impl_TurnThreads.j0
      repeat' first
      | (with_reducible exact ih0 _ _ _)
      | (with_reducible exact ih1 _ _ _ _ _)
      | (with_reducible exact impl_ProgOk.mono _ _)
      | (with_reducible exact impl_isRow.mono _ _ _)
      | (with_reducible exact LeO.refl _)
      | (with_reducible exact LeO.none _)
      | (with_reducible refine LeO.ite ?_ ?_)
      | (with_reducible refine LeO.bind ?_ (fun _ => ?_))
      | exact ih0 _ _ _
      | exact ih1 _ _ _ _ _
      | exact impl_ProgOk.mono _ _
      | exact impl_isRow.mono _ _ _
      | exact LeO.none _
      | refine LeO.ite ?_ ?_
      | refine LeO.bind ?_ (fun _ => ?_)
    · intro y0 y1 y2 y3 y4
      unfold impl_TurnThreads.l0
      repeat' first
      | (with_reducible exact ih0 _ _ _)
      | (with_reducible exact ih1 _ _ _ _ _)
      | (with_reducible exact impl_ProgOk.mono _ _)
      | (with_reducible exact impl_isRow.mono _ _ _)
      | (with_reducible exact LeO.refl _)
      | (with_reducible exact LeO.none _)
      | (with_reducible refine LeO.ite ?_ ?_)
      | (with_reducible refine LeO.bind ?_ (fun _ => ?_))
      | exact ih0 _ _ _
      | exact ih1 _ _ _ _ _
      | exact impl_ProgOk.mono _ _
      | exact impl_isRow.mono _ _ _
      | exact LeO.none _
      | refine LeO.ite ?_ ?_
      | refine LeO.bind ?_ (fun _ => ?_)
theorem impl_TurnThreads.mono : ∀ a0 a1 k, LeO (impl_TurnThreads.f k a0 a1) (impl_TurnThreads.f (k + 1) a0 a1) := by
  intro a0 a1 k
  obtain ⟨ih0, ih1⟩ := impl_TurnThreads.mono_l k
  unfold impl_TurnThreads.f
  repeat' first
      | (with_reducible exact ih0 _ _ _)
      | (with_reducible exact ih1 _ _ _ _ _)
      | (with_reducible exact impl_ProgOk.mono _ _)
      | (with_reducible exact impl_isRow.mono _ _ _)
      | (with_reducible exact LeO.refl _)
      | (with_reducible exact LeO.none _)
      | (with_reducible refine LeO.ite ?_ ?_)
      | (with_reducible refine LeO.bind ?_ (fun _ => ?_))
      | exact ih0 _ _ _
      | exact ih1 _ _ _ _ _
      | exact impl_ProgOk.mono _ _
      | exact impl_isRow.mono _ _ _
      | exact LeO.none _
      | refine LeO.ite ?_ ?_
      | refine LeO.bind ?_ (fun _ => ?_)
def impl_TurnThreads.T7 : Bool × List (List Nat × List Nat) := (true, [([], []), ([0], [0]), ([], []), ([2], [2]), ([], []), ([3, 4], [3, 4]), ([5], [5]), ([6], [6]), ([7], [7]), ([1, 8, 7], [1, 8]), ([0, 1, 2, 3, 4, 5, 6, 7, 8, 9], []), ([10, 9, 9, 0, 1, 2, 3, 4, 5, 6, 7, 8, 9], [9, 10])])
def impl_TurnThreads.B7 : List Nat := [0, 1, 0, 4, 0, 28, 60, 124, 252, 511, 1023, 2047]
theorem impl_TurnThreads.tab7 : rtab .any (opsOf Try.f47 7) = impl_TurnThreads.T7 := by kernel_rfl
theorem impl_TurnThreads.bits7 : waitsOk impl_TurnThreads.T7.2 impl_TurnThreads.B7 = true := by kernel_rfl
set_option maxHeartbeats 8000000 in
set_option maxRecDepth 100000 in
theorem impl_TurnThreads.calls (k : Nat) (A0_0 : Option Addr) (c0_0 : Nat) (l0_0 : List (List (S85))) (A1 : Option Addr) (c1 : Nat) (l1 : List Int) (r1 : List (List (S85))) (r2 : Bool) (w : World) (hr0_0 : Kd.C (Kd.slice 85 k85) w A0_0 l0_0.length l0_0) (hc0_0 : l0_0.length ≤ c0_0) (hr1 : Kd.C (Kd.int .i64) w A1 l1.length l1) (hc1 : l1.length ≤ c1) (h : impl_TurnThreads.f k l0_0 l1 = some (r1, r2)) :
  Calls Try.prog 47 #[.agg #[.slice A0_0 l0_0.length c0_0], .slice A1 l1.length c1] w fun e w' => ∃ v0_ : Value, e = .returned (.tuple #[.agg #[v0_], .bool r2]) ∧ Kd.S (Kd.slice 85 k85) 82 w' w.heap.size (fun _ => True) v0_ r1 ∧ Below w.heap.size w w' := by
 have hu35 := Try.underlying35
 have HR0_0 := am_ hr0_0
 have HC0_0 := am_ hc0_0
 clear hr0_0 hc0_0
 have HR1 := am_ hr1
 have HC1 := am_ hc1
 clear hr1 hc1
 have HB := am_ (Below.refl w.heap.size w)
 have H : ((impl_ProgOk.f k l0_0).bind fun t987 => (if t987 = true then ((impl_isRow.f k l1 (l0_0.length : Int)).bind fun t988 => (impl_TurnThreads.j0 k l1 (!t988) l0_0)) else (impl_TurnThreads.j0 k l1 true l0_0))) = some (r1, r2) := h
 clear h
 have HC3 := am_ H
 clear H
 go_enter Try.func47, Try.ntmps47
 go_upto_region 1 with (first | ((with_reducible refine gate_dst (N := 2) rfl ?_); (try (refine gate_guard (by rfl) ?_; dsimp only)); refine box_event ?hg (N := 2) ?hd (cs := #[.slice A0_0 l0_0.length c0_0]) (t := 35) ?hr ?_; (case hd => rfl); (case hg => rfl); (case hr => first | (go_simp; done) | (go_simp; rfl)); intro gb985 hg w4 hbox hb; have n0_ := am_ (below_step z47_4 hb); have n1_ := am_ (hbox); have n2_ := am_ (by rw [hg]; exact (below_size z47_4) : w.heap.size ≤ gb985); have n3_ := am_ (by rw [hg]; exact (below_size z47_4) : w.heap.size ≤ gb985); clear HB; have HB := n0_; have BK985 := n1_; have GW985 := n2_; have GE985 := n3_; clear n0_ n1_ n2_ n3_; clear hb hbox hg) | ((with_reducible refine gate_dst (N := 4) rfl ?_); (try (refine gate_guard (by rfl) ?_; dsimp only)); refine box_event ?hg (N := 4) ?hd (cs := #[.slice none 0 0]) (t := 35) ?hr ?_; (case hd => rfl); (case hg => rfl); (case hr => first | (go_simp; done) | (go_simp; rfl)); intro gb986 hg w5 hbox hb; have n0_ := am_ (blk_below (bu BK985.out) hb); have n1_ := am_ (below_step z47_6 hb); have n2_ := am_ (hbox); have n3_ := am_ (by rw [hg]; exact (below_size z47_6) : w.heap.size ≤ gb986); have n4_ := am_ (by rw [hg]; exact (below_size z47_6) : w.heap.size ≤ gb986); have n5_ := am_ (by rw [hg]; exact Nat.ne_of_lt (blk_lt (bu BK985.out)) : gb985 ≠ gb986); have n6_ := am_ (by rw [hg]; exact Nat.ne_of_gt (blk_lt (bu BK985.out)) : gb986 ≠ gb985); clear BK985 HB; have BK985 := n0_; have HB := n1_; have BK986 := n2_; have GW986 := n3_; have GE986 := n4_; have NB985_986 := n5_; have NB986_985 := n6_; clear n0_ n1_ n2_ n3_ n4_ n5_ n6_; clear hb hbox hg))
 (try simp only [Act.put, List.setIfInBounds_toArray, List.set_cons_zero, List.set_cons_succ])
 go_cut [19] (fun v19 wc => ∃ (kq : Nat) (x19_2 : Bool), v19 = .bool x19_2 ∧ Aside0 (impl_TurnThreads.j0 kq l1 x19_2 l0_0 = some (r1, r2)) ∧ Aside0 (kq ≤ k) ∧ Aside0 (wc.heap[gb985]? = some (.cells #[(.slice A0_0 l0_0.length c0_0)] 35 (0, 0))) ∧ Aside0 (wc.heap[gb986]? = some (.cells #[(.slice none 0 0)] 35 (0, 0))) ∧ Aside0 (Below w.heap.size w wc))
 case first =>
  have H := HC3.out
  clear HC3
  replace H := Option.bind_eq_some_iff.mp H
  obtain ⟨t987, A60, H⟩ := H
  replace H : (if t987 = true then ((impl_isRow.f k l1 (l0_0.length : Int)).bind fun t988 => (impl_TurnThreads.j0 k l1 (!t988) l0_0)) else (impl_TurnThreads.j0 k l1 true l0_0)) = some (r1, r2) := H
  have A6 := am_ A60
  clear A60
  by_cases c7 : t987 = true
  ·subst c7
   have H1 : ((impl_isRow.f k l1 (l0_0.length : Int)).bind fun t988 => (impl_TurnThreads.j0 k l1 (!t988) l0_0)) = some (r1, r2) := by rw [if_pos rfl] at H; exact H
   clear H
   have H := H1
   clear H1
   replace H := Option.bind_eq_some_iff.mp H
   obtain ⟨t988, A80, H⟩ := H
   replace H : (impl_TurnThreads.j0 k l1 (!t988) l0_0) = some (r1, r2) := H
   have A8 := am_ A80
   clear A80
   have H' := am_ H
   clear H
   have hnb9 := NB985_986.out
   have hnc9 := NB986_985.out
   have hcz10_0 : w5.cell? ⟨gb985, 0, none⟩ = some (.slice A0_0 l0_0.length c0_0) := (blk_cell BK985.out 0).trans rfl
   have hfz10_0 := blk_frozen BK985.out 0
   go_wp2_with (first | ((with_reducible refine gate_callee (f := 31) rfl ?_); refine goesL_ (some 10) rfl rfl Try.func31 (by kernel_rfl) rfl #[.agg #[.slice A0_0 l0_0.length c0_0]] rfl (by (try simp only [List.map_toArray, List.map_cons, List.map_nil]); first | done | rfl | (simp only [List.length_drop, List.length_take]; rfl)) ?_; (with_reducible refine (impl_ProgOk.calls k _ _ l0_0 true _ ?side1 ?side2 A6.out).mono ?_); (case side1 => repeat (first | exact (Kd.C_below HR0_0.out HB.out) | (with_reducible refine Kd.C_alloc ?_ _) | (with_reducible refine Kd.C_drewN ?_ _) | (with_reducible refine Kd.C_drew ?_))); (case side2 => exact HC0_0.out); rintro e w11 ⟨rfl, hb⟩; refine ⟨_, rfl, ?_⟩; have n0_ := am_ (blk_below (bu BK985.out) hb); have n1_ := am_ (blk_below (bu BK986.out) hb); have n2_ := am_ (below_step z47_7 hb); clear BK985 BK986 HB; have BK985 := n0_; have BK986 := n1_; have HB := n2_; clear n0_ n1_ n2_; (try clear hb); (try clear hb2); (try clear hk); (try clear hi); have hcz12_0 : w11.cell? ⟨gb985, 0, none⟩ = some (.slice A0_0 l0_0.length c0_0) := (blk_cell BK985.out 0).trans rfl; have hfz12_0 := blk_frozen BK985.out 0) | (go_at_call 97; (with_reducible refine (impl_isRow.calls k _ _ l1 (l0_0.length : Int) t988 _ ?side1 ?side2 A8.out).mono ?_); (case side1 => repeat (first | exact (Kd.C_below HR1.out HB.out) | (with_reducible refine Kd.C_alloc ?_ _) | (with_reducible refine Kd.C_drewN ?_ _) | (with_reducible refine Kd.C_drew ?_))); (case side2 => exact HC1.out); rintro e w' ⟨rfl, ⟨nd, rfl⟩⟩))
   go_meet
   case rel => exact ⟨_, (!t988), z47_1, H', ⟨by first | omega | exact Nat.le_refl _⟩, ⟨bu BK985.out⟩, ⟨bu BK986.out⟩, ⟨z47_7⟩⟩
  ·replace c7 := Bool.eq_false_iff.mpr c7
   subst c7
   have H1 : (impl_TurnThreads.j0 k l1 true l0_0) = some (r1, r2) := by rw [if_neg (show ¬ (false = true) by decide)] at H; exact H
   clear H
   have H := H1
   clear H1
   have H' := am_ H
   clear H
   have hnb13 := NB985_986.out
   have hnc13 := NB986_985.out
   have hcz14_0 : w5.cell? ⟨gb985, 0, none⟩ = some (.slice A0_0 l0_0.length c0_0) := (blk_cell BK985.out 0).trans rfl
   have hfz14_0 := blk_frozen BK985.out 0
   go_wp2_with (first | ((with_reducible refine gate_callee (f := 31) rfl ?_); refine goesL_ (some 10) rfl rfl Try.func31 (by kernel_rfl) rfl #[.agg #[.slice A0_0 l0_0.length c0_0]] rfl (by (try simp only [List.map_toArray, List.map_cons, List.map_nil]); first | done | rfl | (simp only [List.length_drop, List.length_take]; rfl)) ?_; (with_reducible refine (impl_ProgOk.calls k _ _ l0_0 false _ ?side1 ?side2 A6.out).mono ?_); (case side1 => repeat (first | exact (Kd.C_below HR0_0.out HB.out) | (with_reducible refine Kd.C_alloc ?_ _) | (with_reducible refine Kd.C_drewN ?_ _) | (with_reducible refine Kd.C_drew ?_))); (case side2 => exact HC0_0.out); rintro e w15 ⟨rfl, hb⟩; refine ⟨_, rfl, ?_⟩; have n0_ := am_ (blk_below (bu BK985.out) hb); have n1_ := am_ (blk_below (bu BK986.out) hb); have n2_ := am_ (below_step z47_7 hb); clear BK985 BK986 HB; have BK985 := n0_; have BK986 := n1_; have HB := n2_; clear n0_ n1_ n2_; (try clear hb); (try clear hb2); (try clear hk); (try clear hi)))
   go_meet
   case rel => exact ⟨_, (true), z47_1, H', ⟨by first | omega | exact Nat.le_refl _⟩, ⟨bu BK985.out⟩, ⟨bu BK986.out⟩, ⟨z47_7⟩⟩
 case rest =>
  clear HC3
  obtain ⟨kq, x19_2, rfl, HA, HJ2, BK985, BK986, HB⟩ := hcut
  cases kq with
  | zero => exact absurd HA.out (by simp [impl_TurnThreads.j0])
  | succ kj2 =>
   have H := HA.out
   clear HA
   simp only [impl_TurnThreads.j0] at H
   by_cases c16 : x19_2 = true
   ·subst c16
    have H1 : (some (([] : List (List (S85))), false)) = some (r1, r2) := by rw [if_pos rfl] at H; exact H
    clear H
    have H := H1
    clear H1
    simp only [Option.some.injEq, Prod.mk.injEq] at H
    obtain ⟨rfl, rfl⟩ := H
    have hnb17 := NB986_985.out
    have hnc17 := NB985_986.out
    have hcz18_0 : wc.cell? ⟨gb986, 0, none⟩ = some (.slice none 0 0) := (blk_cell BK986.out 0).trans rfl
    have hfz18_0 := blk_frozen BK986.out 0
    go_wp2
    refine bodyPost_ret (results_ct rfl _ _ gb986 35 #[.slice none 0 0] (0, 0) _ rfl z47_9 Try.underlying35 rfl (by kernel_rfl)) rfl ?_
    exact ⟨_, z47_3, z47_5, z47_7⟩
   ·replace c16 := Bool.eq_false_iff.mpr c16
    subst c16
    have H1 : (impl_TurnThreads.l0 kj2 l1 (l1.length : Int) 0 l0_0 ([] : List (List (S85)))) = some (r1, r2) := by rw [if_neg (show ¬ (false = true) by decide)] at H; exact H
    clear H
    have H := H1
    clear H1
    have H' := am_ H
    clear H
    go_wp2_with (first | ((with_reducible refine gate_dst (N := 6) rfl ?_); (try (refine gate_guard (by rfl) ?_; dsimp only)); refine box_event ?hg (N := 6) ?hd (cs := #[.slice none 0 0]) (t := 35) ?hr ?_; (case hd => rfl); (case hg => rfl); (case hr => first | (go_simp; done) | (go_simp; rfl)); intro gb989 hg w19 hbox hb; have n0_ := am_ (blk_below (bu BK985.out) hb); have n1_ := am_ (blk_below (bu BK986.out) hb); have n2_ := am_ (below_step z47_7 hb); have n3_ := am_ (hbox); have n4_ := am_ (by rw [hg]; exact (below_size z47_7) : w.heap.size ≤ gb989); have n5_ := am_ (by rw [hg]; exact (below_size z47_7) : w.heap.size ≤ gb989); have n6_ := am_ (by rw [hg]; exact Nat.ne_of_lt (blk_lt (bu BK985.out)) : gb985 ≠ gb989); have n7_ := am_ (by rw [hg]; exact Nat.ne_of_gt (blk_lt (bu BK985.out)) : gb989 ≠ gb985); have n8_ := am_ (by rw [hg]; exact Nat.ne_of_lt (blk_lt (bu BK986.out)) : gb986 ≠ gb989); have n9_ := am_ (by rw [hg]; exact Nat.ne_of_gt (blk_lt (bu BK986.out)) : gb989 ≠ gb986); clear BK985 BK986 HB; have BK985 := n0_; have BK986 := n1_; have HB := n2_; have BK989 := n3_; have GW989 := n4_; have GE989 := n5_; have NB985_989 := n6_; have NB989_985 := n7_; have NB986_989 := n8_; have NB989_986 := n9_; clear n0_ n1_ n2_ n3_ n4_ n5_ n6_ n7_ n8_ n9_; clear hb hbox hg))
    go_loopg [23] kj2 (fun kq v23 w' => ∃ (x23_2 : Int) (x990000_2 : List (List (S85))) (u990000 : Value), v23 = .int .i64 x23_2 ∧ Aside0 (impl_TurnThreads.l0 kq l1 (l1.length : Int) x23_2 l0_0 x990000_2 = some (r1, r2)) ∧ Aside0 (kq ≤ kj2) ∧ Aside0 (Kd.S (Kd.slice 85 k85) 82 w' w.heap.size (fun _ => True) u990000 x990000_2) ∧ Aside0 (w'.heap[gb985]? = some (.cells #[(.slice A0_0 l0_0.length c0_0)] 35 (0, 0))) ∧ Aside0 (w'.heap[gb986]? = some (.cells #[(.slice none 0 0)] 35 (0, 0))) ∧ Aside0 (w'.heap[gb989]? = some (.cells #[u990000] 35 (0, 0))) ∧ Aside0 (Below w.heap.size w w'))
    case atStart => exact ⟨(0), (([] : List (List (S85)))), (.slice none 0 0), z47_1, H', ⟨Nat.le_refl _⟩, ⟨z47_5⟩, ⟨bu BK985.out⟩, ⟨bu BK986.out⟩, ⟨bu BK989.out⟩, ⟨z47_8⟩⟩
    case round =>
     clear H'
     obtain ⟨x23_2, x990000_2, u990000, rfl, HA, HK2, HO_990000, BK985, BK986, BK989, HB⟩ := hrel
     cases gk with
     | zero => exact absurd HA.out (by simp [impl_TurnThreads.l0])
     | succ k2 =>
      have H := HA.out
      clear HA
      simp only [impl_TurnThreads.l0] at H
      by_cases c20 : x23_2 < (l1.length : Int)
      ·rw [if_pos c20] at H
       have c20b0 : decide (x23_2 < (l1.length : Int)) = true := decide_eq_true c20
       clear c20
       by_cases c21 : 0 ≤ x23_2
       ·rw [if_pos c21] at H
        have c21b0 : decide (0 ≤ x23_2) = true := decide_eq_true c21
        clear c21
        by_cases c22 : x23_2 < (l1.length : Int)
        ·rw [if_pos c22] at H
         have c22b0 : decide (x23_2 < (l1.length : Int)) = true := decide_eq_true c22
         clear c22
         by_cases c23 : 0 ≤ (rd l1 x23_2)
         ·rw [if_pos c23] at H
          have c23b0 : decide (0 ≤ (rd l1 x23_2)) = true := decide_eq_true c23
          clear c23
          by_cases c24 : (rd l1 x23_2) < (l0_0.length : Int)
          ·rw [if_pos c24] at H
           have c24b0 : decide ((rd l1 x23_2) < (l0_0.length : Int)) = true := decide_eq_true c24
           clear c24
           replace H := Option.bind_eq_some_iff.mp H
           obtain ⟨t992, A250, H⟩ := H
           replace H : (if x990000_2.length < 5864062014805 then (impl_TurnThreads.l0 k2 l1 (l1.length : Int) (wrap64 (x23_2 + 1)) l0_0 (x990000_2 ++ [t992])) else (none)) = some (r1, r2) := H
           have A25 := am_ A250
           clear A250
           by_cases c26 : x990000_2.length < 5864062014805
           ·rw [if_pos c26] at H
            have LMc26 := am_ c26
            clear c26
            obtain ⟨y995, hy995⟩ : ∃ y_ : List (List (S85)), y_ = (x990000_2 ++ [t992]) := ⟨_, rfl⟩
            replace H : (impl_TurnThreads.l0 k2 l1 (l1.length : Int) (wrap64 (x23_2 + 1)) l0_0 y995) = some (r1, r2) := by first | (rw [hy995]; with_reducible exact H) | (have H2_ := (Option.bind_some _ _).symm.trans H; rw [hy995]; with_reducible exact H2_) | (have H2_ := (Option.bind_some _ _).symm.trans H; with_reducible exact H2_) | with_reducible exact H | (rw [hy995]; exact H) | exact H
            have Ny995 := am_ hy995
            clear hy995
            have H' := am_ H
            clear H
            have p990 : 0 ≤ (x23_2 : Int) := of_decide_eq_true z47_2
            have q990 : x23_2 < (l1.length : Int) := of_decide_eq_true z47_2
            obtain ⟨ad990, e990, hx990_0⟩ := Kd.at_int HR1.out x23_2 p990 q990
            cases e990
            replace hx990_0 := (HB.out.cell (World.block_lt_of_cell? w _ hx990_0)).trans hx990_0
            replace p990 := eq_true p990
            replace q990 := eq_true q990
            try go_wp2
            have n0_ := am_ (Kd.S_drew HO_990000.out)
            have n1_ := am_ (blk_drew BK985.out)
            have n2_ := am_ (blk_drew BK986.out)
            have n3_ := am_ (blk_drew BK989.out)
            have n4_ := am_ (below_drew1 HB.out)
            clear HO_990000 BK985 BK986 BK989 HB
            have HO_990000 := n0_
            have BK985 := n1_
            have BK986 := n2_
            have BK989 := n3_
            have HB := n4_
            clear n0_ n1_ n2_ n3_ n4_
            have p991 : 0 ≤ ((rd l1 x23_2) : Int) := of_decide_eq_true z47_2
            have q991 : (rd l1 x23_2) < (l0_0.length : Int) := of_decide_eq_true z47_2
            obtain ⟨ad991, A991_0, c991_0, e991, hx991_0, hl991_0, hi991_0⟩ := at_L7 HR0_0.out (rd l1 x23_2) p991 q991
            have hw991_0 := hx991_0
            cases e991
            replace hx991_0 := (HB.out.cell (World.block_lt_of_cell? w _ hx991_0)).trans hx991_0
            have HR991_0 := am_ hi991_0
            have HC991_0 := am_ hl991_0
            clear hi991_0 hl991_0
            replace p991 := eq_true p991
            replace q991 := eq_true q991
            refine start_ (n := 12) (S := fun w' => w'.cell? ⟨gb989, 0, none⟩ = some (u990000) ∧ w'.cell? ⟨gb985, 0, none⟩ = some (.slice (some ad991) l0_0.length c0_0) ∧ w'.cell? (ad991.add ((rd l1 x23_2)).toNat) = some (.slice A991_0 (rd_L7 l0_0 (rd l1 x23_2)).length c991_0)) (ds := [11]) #[false, false, false, false, false, false, false, false, false, false, false, false] (by kernel_rfl) rfl rfl ⟨(blk_cell BK989.out 0).trans rfl, (blk_cell BK985.out 0).trans rfl, ((HB.out.cell (World.block_lt_of_cell? w _ hw991_0)).trans hw991_0)⟩ (fun hHeld => ?_); refine with_tabW impl_TurnThreads.tab7 impl_TurnThreads.bits7 (fun HT_ HW_ => ?_)
            generalize wr.drew = w27 at HO_990000 BK985 BK986 BK989 HB HR991_0 hx991_0 hHeld ⊢
            refine pure_ (i := 0) (N := some 27) (v := ?_) (a' := ?_) #[true, false, false, false, false, false, false, false, false, false, false, false] rfl rfl (any_of HT_.out (by kernel_rfl)) (fun _ _ _ h => h) (Or.inl ⟨by rfl, ?_⟩) ?_ ?_
            rotate_left
            ·intro w'
             go_simp
             with_reducible rfl
            rotate_left
            ·simp only [Act.put, List.setIfInBounds_toArray, List.set_cons_zero, List.set_cons_succ, i64_w, i32_w]
             rfl
            refine pure_ (i := 2) (N := some 29) (v := ?_) (a' := ?_) #[true, false, true, false, false, false, false, false, false, false, false, false] rfl rfl (any_of HT_.out (by kernel_rfl)) (fun _ _ _ h => h) (Or.inl ⟨by rfl, ?_⟩) ?_ ?_
            rotate_left
            ·intro w'
             go_simp
             with_reducible rfl
            rotate_left
            ·simp only [Act.put, List.setIfInBounds_toArray, List.set_cons_zero, List.set_cons_succ, i64_w, i32_w]
             rfl
            refine pure_ (i := 4) (N := some 31) (v := ?_) (a' := ?_) #[true, false, true, false, true, false, false, false, false, false, false, false] rfl rfl (any_of HT_.out (by kernel_rfl)) (fun _ _ _ h => h) (Or.inl ⟨by rfl, ?_⟩) ?_ ?_
            rotate_left
            ·intro w'
             go_simp
             with_reducible rfl
            rotate_left
            ·simp only [Act.put, List.setIfInBounds_toArray, List.set_cons_zero, List.set_cons_succ, i64_w, i32_w]
             rfl
            refine take_ (i := 1) (N := some 28) (v := ?_) (a' := ?_) #[true, true, true, false, true, false, false, false, false, false, false, false] rfl rfl (take_ofW HT_.out HW_.out (by kernel_rfl)) (fun _ _ _ h => h) (Or.inl ⟨by rfl, ?_⟩) hHeld ?_ ?_
            rotate_left
            ·rintro w' ⟨s0, s1, s2⟩
             go_simp
             with_reducible rfl
            rotate_left
            ·simp only [Act.put, List.setIfInBounds_toArray, List.set_cons_zero, List.set_cons_succ, i64_w, i32_w]
             rfl
            refine take_ (i := 3) (N := some 30) (v := ?_) (a' := ?_) #[true, true, true, true, true, false, false, false, false, false, false, false] rfl rfl (take_ofW HT_.out HW_.out (by kernel_rfl)) (fun _ _ _ h => h) (Or.inl ⟨by rfl, ?_⟩) hHeld ?_ ?_
            rotate_left
            ·rintro w' ⟨s0, s1, s2⟩
             go_simp
             with_reducible rfl
            rotate_left
            ·simp only [Act.put, List.setIfInBounds_toArray, List.set_cons_zero, List.set_cons_succ, i64_w, i32_w]
             rfl
            refine pure_ (i := 5) (N := some 32) (v := ?_) (a' := ?_) #[true, true, true, true, true, true, false, false, false, false, false, false] rfl rfl (any_of HT_.out (by kernel_rfl)) (fun _ _ _ h => h) (Or.inl ⟨by rfl, ?_⟩) ?_ ?_
            rotate_left
            ·intro w'
             go_simp
             with_reducible rfl
            rotate_left
            ·simp only [Act.put, List.setIfInBounds_toArray, List.set_cons_zero, List.set_cons_succ, i64_w, i32_w]
             rfl
            refine take_ (i := 6) (N := some 33) (v := ?_) (a' := ?_) #[true, true, true, true, true, true, true, false, false, false, false, false] rfl rfl (take_ofW HT_.out HW_.out (by kernel_rfl)) (fun _ _ _ h => h) (Or.inl ⟨by rfl, ?_⟩) hHeld ?_ ?_
            rotate_left
            ·rintro w' ⟨s0, s1, s2⟩
             go_simp
             with_reducible rfl
            rotate_left
            ·simp only [Act.put, List.setIfInBounds_toArray, List.set_cons_zero, List.set_cons_succ, i64_w, i32_w]
             rfl
            refine one_ (i := 7) (N := some 34) #[true, true, true, true, true, true, true, true, false, false, false, false] rfl rfl (one_of HT_.out (by kernel_rfl)) (by decide) (fun K hK => ?_)
            refine goes_ Try.func98 (by kernel_rfl) rfl #[.slice A991_0 (rd_L7 l0_0 (rd l1 x23_2)).length c991_0] (by rfl) rfl rfl (by (try simp only [List.map_toArray, List.map_cons, List.map_nil]); first | done | rfl | (simp only [List.length_drop, List.length_take]; rfl)) ?_
            with_reducible refine (impl_Do_98.calls _ _ (rd_L7 l0_0 (rd l1 x23_2)) t992 _ ?side1 ?side2 A25.out).mono ?_
            (case side1 => repeat (first | exact (Kd.C_below HR991_0.out HB.out) | (with_reducible refine Kd.C_alloc ?_ _) | (with_reducible refine Kd.C_drewN ?_ _) | (with_reducible refine Kd.C_drew ?_)))
            (case side2 => exact HC991_0.out)
            rintro e w28 ⟨v993, rfl, ho0, hb⟩
            refine ⟨_, rfl, ?_⟩
            have n0_ := am_ (Kd.S_elder' (su HO_990000.out) (Kd.R_base ho0) hb)
            have n1_ := am_ (Kd.R_lower ho0 (below_size z47_8))
            have n2_ := am_ (blk_below (bu BK985.out) hb)
            have n3_ := am_ (blk_below (bu BK986.out) hb)
            have n4_ := am_ (blk_below (bu BK989.out) hb)
            have n5_ := am_ (below_step z47_8 hb)
            clear HO_990000 BK985 BK986 BK989 HB
            have HO_990000 := n0_
            have HO994 := n1_
            have BK985 := n2_
            have BK986 := n3_
            have BK989 := n4_
            have HB := n5_
            clear n0_ n1_ n2_ n3_ n4_ n5_
            (try clear hb)
            (try clear hb2)
            (try clear hk)
            (try clear hi)
            (try clear ho0)
            obtain ⟨Ao30, co30, eo30⟩ := Kd.R_slice HO994.out
            (first | subst eo30 | (injection eo30 with f1_ f2_ f3_; have f4_ := f1_.symm; have f5_ := f3_.symm; clear f1_ f2_ f3_; subst f4_; subst f5_))
            refine hK.out _ _ ⟨(blk_cell BK989.out 0).trans rfl, (blk_cell BK985.out 0).trans rfl, ((HB.out.cell (World.block_lt_of_cell? w _ hw991_0)).trans hw991_0)⟩ (fun hHeld => ?_)
            clear hK K
            refine norm_ (a' := ?_) ?_ ?_
            rotate_left
            ·show Act.put _ (some 34) _ = _
             simp only [Act.put, List.setIfInBounds_toArray, List.set_cons_zero, List.set_cons_succ, i64_w, i32_w]
             rfl
            refine one_ (i := 8) (N := some 35) #[true, true, true, true, true, true, true, true, true, false, false, false] rfl rfl (one_of HT_.out (by kernel_rfl)) (by decide) (fun K hK => ?_)
            refine value_ (w1 := ?_) (v := ?_) (by rfl) rfl ?_ ?_
            rotate_left 2
            ·go_simp
             constructor
             ·rfl
             ·rfl
            refine hK.out _ _ ⟨(blk_cell (blk_alloc BK989.out _) 0).trans rfl, (blk_cell (blk_alloc BK985.out _) 0).trans rfl, (World.cell?_alloc_lt _ _ _ (World.block_lt_of_cell? _ _ (((HB.out.cell (World.block_lt_of_cell? w _ hw991_0)).trans hw991_0)))).trans (((HB.out.cell (World.block_lt_of_cell? w _ hw991_0)).trans hw991_0))⟩ (fun hHeld => ?_)
            clear hK K
            refine norm_ (a' := ?_) ?_ ?_
            rotate_left
            ·show Act.put _ (some 35) _ = _
             simp only [Act.put, List.setIfInBounds_toArray, List.set_cons_zero, List.set_cons_succ, i64_w, i32_w]
             rfl
            refine one_ (i := 9) (N := some 36) #[true, true, true, true, true, true, true, true, true, true, false, false] rfl rfl (one_of HT_.out (by kernel_rfl)) (by decide) (fun K hK => ?_)
            refine Kd.S_append_step (Kd.slice 85 k85) (w0 := w) w.heap.size (by rfl) (.tmp 28) (.tmp 35) 33 82 (.slice none 0 0) 24 rfl Try.underlying33 info82 rfl (by decide) (by omega) u990000 x990000_2 t992 [.slice Ao30 t992.length co30] (fun _ => True) (fun k_ => some k_ = (.slice Ao30 t992.length co30 : Value).ownBlock) rfl rfl ?aP (fun k_ hk_ => ((Kd.R_mono (ok' := fun k_ => ((fun _ => True)) k_ ∧ some k_ ≠ (u990000 : Value).ownBlock) (Kd.R_apart' (HO994.out) (Kd.S_typed HO_990000.out) (by decide)) (fun k_ hk => ⟨trivial, hk.2⟩))).1 k_ hk_.symm) ?aF ?aO ?aB ?aS ?aL ?_
            (case aP => exact Kd.M_row (Kd.R_mono (Kd.R_tight rfl (Kd.R_mono (ok' := fun k_ => ((fun _ => True)) k_ ∧ some k_ ≠ (u990000 : Value).ownBlock) (Kd.R_apart' (HO994.out) (Kd.S_typed HO_990000.out) (by decide)) (fun k_ hk => ⟨trivial, hk.2⟩))) (fun _ h_ => h_)))
            (case aB => exact z47_8)
            (case aF => exact (fun _ _ => trivial))
            (case aO => exact (su (Kd.S_mono HO_990000.out (fun k_ hk => ⟨trivial, fun e_ => hk.2 e_⟩))))
            (case aS => exact (below_size z47_8))
            (case aL => have := LMc26.out; omega)
            intro v996 w29 ho hb hg hat
            rw [← Ny995.out] at ho
            have n0_ := am_ (blk_grown (bu BK985.out) hg (Kd.S_ne HO_990000.out BK985.out (by decide)))
            have n1_ := am_ (blk_grown (bu BK986.out) hg (Kd.S_ne HO_990000.out BK986.out (by decide)))
            have n2_ := am_ (blk_grown (bu BK989.out) hg (Kd.S_ne HO_990000.out BK989.out (by decide)))
            have n3_ := am_ (hb)
            have n4_ := am_ (ho)
            clear BK985 BK986 BK989 HB HO_990000 HO994
            have BK985 := n0_
            have BK986 := n1_
            have BK989 := n2_
            have HB := n3_
            have HO997 := n4_
            clear n0_ n1_ n2_ n3_ n4_ ho hb hg hat
            obtain ⟨Ao31, co31, eo31⟩ := Kd.S_slice HO997.out
            (first | subst eo31 | (injection eo31 with f1_ f2_ f3_; have f4_ := f1_.symm; have f5_ := f3_.symm; clear f1_ f2_ f3_; subst f4_; subst f5_))
            refine hK.out _ _ ⟨(blk_cell BK989.out 0).trans rfl, (blk_cell BK985.out 0).trans rfl, ((HB.out.cell (World.block_lt_of_cell? w _ hw991_0)).trans hw991_0)⟩ (fun hHeld => ?_)
            clear hK K
            refine norm_ (a' := ?_) ?_ ?_
            rotate_left
            ·show Act.put _ (some 36) _ = _
             simp only [Act.put, List.setIfInBounds_toArray, List.set_cons_zero, List.set_cons_succ, i64_w, i32_w]
             rfl
            refine pure_ (i := 10) (N := some 37) (v := ?_) (a' := ?_) #[true, true, true, true, true, true, true, true, true, true, true, false] rfl rfl (any_of HT_.out (by kernel_rfl)) (fun _ _ _ h => h) (Or.inl ⟨by rfl, ?_⟩) ?_ ?_
            rotate_left
            ·intro w'
             go_simp
             with_reducible rfl
            rotate_left
            ·simp only [Act.put, List.setIfInBounds_toArray, List.set_cons_zero, List.set_cons_succ, i64_w, i32_w]
             rfl
            refine last_ (i := 11) (N := none) #[true, true, true, true, true, true, true, true, true, true, true, true] rfl rfl (one_of HT_.out (by kernel_rfl)) (by decide) (fun K hK => ?_)
            have hs32 : w29.cell? ⟨gb989, 0, none⟩ = some (u990000) := (blk_cell BK989.out 0).trans rfl
            have hfs32 := blk_frozen BK989.out 0
            have hns32_0 := NB985_989.out
            have hns32_1 := NB986_989.out
            have hms32_0 := NB989_985.out
            have hms32_1 := NB989_986.out
            refine skip_ (w1 := ?_) (by rfl) rfl ?_ ?_
            rotate_left
            ·go_simp
             rfl
            refine hK.out _ _ ?_
            clear hK K
            refine done_ (done_of HT_.out (by kernel_rfl)) ?_
            try go_wp2
            go_roundg k2
            case measure => have := HJ2.out; have := HK2.out; omega
            case rel => exact ⟨(wrap64 (x23_2 + 1)), (y995), (.slice Ao31 y995.length co31), z47_1, H', ⟨by have := HJ2.out; have := HK2.out; omega⟩, ⟨su (Kd.S_mono (Kd.S_far (p := ⟨gb989, 0, none⟩) (Kd.S_types HO997.out BK989.out (by decide)) (fun _ hk => hk.2) (.slice Ao31 y995.length co31)) (fun _ hk => trivial))⟩, ⟨by (with_reducible repeat (first | refine blk_drewN ?_ _ | refine blk_drew ?_ | refine blk_alloc ?_ _)); refine blk_far ?_ NB985_989.out _; (with_reducible repeat (first | refine blk_drewN ?_ _ | refine blk_drew ?_ | refine blk_alloc ?_ _)); exact BK985.out⟩, ⟨by (with_reducible repeat (first | refine blk_drewN ?_ _ | refine blk_drew ?_ | refine blk_alloc ?_ _)); refine blk_far ?_ NB986_989.out _; (with_reducible repeat (first | refine blk_drewN ?_ _ | refine blk_drew ?_ | refine blk_alloc ?_ _)); exact BK986.out⟩, ⟨by (with_reducible repeat (first | refine blk_drewN ?_ _ | refine blk_drew ?_ | refine blk_alloc ?_ _)); refine blk_put (cs := #[u990000]) ?_ 0 _ rfl; (with_reducible repeat (first | refine blk_drewN ?_ _ | refine blk_drew ?_ | refine blk_alloc ?_ _)); exact BK989.out⟩, ⟨z47_8⟩⟩
           ·rw [if_neg c26] at H
            exact absurd H (by simp)
          ·rw [if_neg c24] at H
           exact absurd H (by simp)
         ·rw [if_neg c23] at H
          exact absurd H (by simp)
        ·rw [if_neg c22] at H
         exact absurd H (by simp)
       ·rw [if_neg c21] at H
        exact absurd H (by simp)
      ·rw [if_neg c20] at H
       have c20b0 : decide (x23_2 < (l1.length : Int)) = false := decide_eq_false c20
       clear c20
       simp only [Option.some.injEq, Prod.mk.injEq] at H
       obtain ⟨rfl, rfl⟩ := H
       have hnb33 := NB989_985.out
       have hnc33 := NB985_989.out
       have hnb34 := NB989_986.out
       have hnc34 := NB986_989.out
       have hcz35_0 : wr.cell? ⟨gb989, 0, none⟩ = some (u990000) := (blk_cell BK989.out 0).trans rfl
       have hfz35_0 := blk_frozen BK989.out 0
       obtain ⟨Ao36, co36, eo36⟩ := Kd.S_slice HO_990000.out
       subst eo36
       have hnb37 := NB986_985.out
       have hnc37 := NB985_986.out
       have hcz38_0 : wr.cell? ⟨gb986, 0, none⟩ = some (.slice none 0 0) := (blk_cell BK986.out 0).trans rfl
       have hfz38_0 := blk_frozen BK986.out 0
       go_wp2
       refine bodyPost_ret (results_ct rfl _ _ gb986 35 #[.slice Ao36 x990000_2.length co36] (0, 0) _ rfl z47_9 Try.underlying35 rfl (by kernel_rfl)) rfl ?_
       exact ⟨_, z47_3, su (Kd.S_mono (Kd.S_far (p := ⟨gb986, 0, none⟩) (Kd.S_types HO_990000.out BK986.out (by decide)) (fun _ hk => hk.2) (.slice Ao36 x990000_2.length co36)) (fun _ hk => trivial)), z47_8⟩

end Go.Proofs.Ytefkbmhkhpekjaa.PB

namespace Go.Proofs.Ytefkbmhkhpekjaa.PB
open Go.RowKit Go.Proofs.YtefkbmhkhpekjaaW.PrintWords Go.Proofs.YtefkbmhkhpekjaaW.PrintLast Go.Proofs.YtefkbmhkhpekjaaW.PrintMore
attribute [local go_sem] max2_int min2_int max_two min_two max_three min_three max_four min_four   -- for this text's walks alone
open Go.Proofs.YtefkbmhkhpekjaaMine
set_option linter.unusedVariables false
set_option linter.unusedSimpArgs false

theorem z87_1 {p : Prop} (h : p := by first | rfl | (simp [errW_none, errW_some] <;> rfl) | (simp [*, errW_none, errW_some] <;> rfl)) : p := h
theorem z87_2 {p : Prop} (h : p := by repeat (first | (with_reducible first | exact HB.out | apply below_alloc | apply pw_below_drewN | apply below_drew1) | exact HB.out)) : p := h
theorem z87_3 {p : Prop} (h : p := by repeat (first | (with_reducible first | exact HB.out | apply below_alloc | apply pw_below_drewN | apply below_drew1 | refine below_set ?_ GE198.out) | exact HB.out)) : p := h
/-! ### spec_l1Reads: function 87 -/
def spec_l1Reads.f (a0_0 : Int) (a0_1 : Int) (a0_2 : Int) : Option (Bool) := if a0_0 = 2 then (some true) else (some (a0_0 == 5))
set_option maxHeartbeats 8000000 in
set_option maxRecDepth 100000 in
theorem spec_l1Reads.calls (a0_0 : Int) (a0_1 : Int) (a0_2 : Int) (r : Bool) (w : World) (h : spec_l1Reads.f a0_0 a0_1 a0_2 = some r) :
  Calls Try.prog 87 #[.agg #[.int .i64 a0_0, .int .i64 a0_1, .int .i64 a0_2]] w fun e w' => e = .returned (.bool r) ∧ Below w.heap.size w w' := by
 have hu85 := Try.underlying85
 have HB := am_ (Below.refl w.heap.size w)
 have H : (if a0_0 = 2 then (some true) else (some (a0_0 == 5))) = some r := h
 clear h
 by_cases c2 : a0_0 = 2
 ·rw [if_pos c2] at H
  have c2b0 : (a0_0 == 2) = true := beq_iff_eq.mpr c2
  have c2b1 : (a0_0 != 2) = false := bne_eq_false_iff_eq.mpr c2
  clear c2
  obtain rfl := Option.some.inj H
  go_enter Try.func87, Try.ntmps87
  go_wp2_with (first | ((with_reducible refine gate_dst (N := 1) rfl ?_); refine box_event ?hg (N := 1) ?hd (cs := #[.int .i64 a0_0, .int .i64 a0_1, .int .i64 a0_2]) (t := 85) ?hr ?_; (case hd => rfl); (case hg => rfl); (case hr => first | (go_simp; done) | (go_simp; rfl)); intro gb198 hg w3 hbox hb; have n0_ := am_ (below_step z87_2 hb); have n1_ := am_ (hbox); have n2_ := am_ (by rw [hg]; exact (below_size z87_2) : w.heap.size ≤ gb198); have n3_ := am_ (by rw [hg]; exact (below_size z87_2) : w.heap.size ≤ gb198); clear HB; have HB := n0_; have BK198 := n1_; have GW198 := n2_; have GE198 := n3_; clear n0_ n1_ n2_ n3_; clear hb hbox hg; have hcz4_0 : w3.cell? ⟨gb198, 0, none⟩ = some (.int .i64 a0_0) := (blk_cell BK198.out 0).trans rfl; have hcz4_1 : w3.cell? ⟨gb198, 1, none⟩ = some (.int .i64 a0_1) := (blk_cell BK198.out 1).trans rfl; have hcz4_2 : w3.cell? ⟨gb198, 2, none⟩ = some (.int .i64 a0_2) := (blk_cell BK198.out 2).trans rfl; have hfz4_0 := blk_frozen BK198.out 0; have hfz4_1 := blk_frozen BK198.out 1; have hfz4_2 := blk_frozen BK198.out 2))
  go_ret
  exact ⟨z87_1, z87_3⟩
 ·rw [if_neg c2] at H
  have c2b0 : (a0_0 == 2) = false := beq_eq_false_iff_ne.mpr c2
  have c2b1 : (a0_0 != 2) = true := bne_iff_ne.mpr c2
  obtain rfl := Option.some.inj H
  go_enter Try.func87, Try.ntmps87
  go_wp2_with (first | ((with_reducible refine gate_dst (N := 1) rfl ?_); refine box_event ?hg (N := 1) ?hd (cs := #[.int .i64 a0_0, .int .i64 a0_1, .int .i64 a0_2]) (t := 85) ?hr ?_; (case hd => rfl); (case hg => rfl); (case hr => first | (go_simp; done) | (go_simp; rfl)); intro gb198 hg w5 hbox hb; have n0_ := am_ (below_step z87_2 hb); have n1_ := am_ (hbox); have n2_ := am_ (by rw [hg]; exact (below_size z87_2) : w.heap.size ≤ gb198); have n3_ := am_ (by rw [hg]; exact (below_size z87_2) : w.heap.size ≤ gb198); clear HB; have HB := n0_; have BK198 := n1_; have GW198 := n2_; have GE198 := n3_; clear n0_ n1_ n2_ n3_; clear hb hbox hg; have hcz6_0 : w5.cell? ⟨gb198, 0, none⟩ = some (.int .i64 a0_0) := (blk_cell BK198.out 0).trans rfl; have hcz6_1 : w5.cell? ⟨gb198, 1, none⟩ = some (.int .i64 a0_1) := (blk_cell BK198.out 1).trans rfl; have hcz6_2 : w5.cell? ⟨gb198, 2, none⟩ = some (.int .i64 a0_2) := (blk_cell BK198.out 2).trans rfl; have hfz6_0 := blk_frozen BK198.out 0; have hfz6_1 := blk_frozen BK198.out 1; have hfz6_2 := blk_frozen BK198.out 2))
  go_ret
  exact ⟨z87_1, z87_3⟩

end Go.Proofs.Ytefkbmhkhpekjaa.PB

namespace Go.Proofs.Ytefkbmhkhpekjaa.PB
open Go.RowKit Go.Proofs.YtefkbmhkhpekjaaW.PrintWords Go.Proofs.YtefkbmhkhpekjaaW.PrintLast Go.Proofs.YtefkbmhkhpekjaaW.PrintMore
attribute [local go_sem] max2_int min2_int max_two min_two max_three min_three max_four min_four   -- for this text's walks alone
open Go.Proofs.YtefkbmhkhpekjaaMine
set_option linter.unusedVariables false
set_option linter.unusedSimpArgs false

theorem z88_1 {p : Prop} (h : p := by first | rfl | (simp [errW_none, errW_some] <;> rfl) | (simp [*, errW_none, errW_some] <;> rfl)) : p := h
theorem z88_2 {p : Prop} (h : p := by repeat (first | (with_reducible first | exact HB.out | apply below_alloc | apply pw_below_drewN | apply below_drew1) | exact HB.out)) : p := h
theorem z88_3 {p : Prop} (h : p := by repeat (first | (with_reducible first | exact HB.out | apply below_alloc | apply pw_below_drewN | apply below_drew1 | refine below_set ?_ GE199.out) | exact HB.out)) : p := h
/-! ### spec_l1Writes: function 88 -/
def spec_l1Writes.f (a0_0 : Int) (a0_1 : Int) (a0_2 : Int) : Option (Bool) := if a0_0 = 1 then (some true) else (if a0_0 = 3 then (some true) else (some (a0_0 == 6)))
set_option maxHeartbeats 8000000 in
set_option maxRecDepth 100000 in
theorem spec_l1Writes.calls (a0_0 : Int) (a0_1 : Int) (a0_2 : Int) (r : Bool) (w : World) (h : spec_l1Writes.f a0_0 a0_1 a0_2 = some r) :
  Calls Try.prog 88 #[.agg #[.int .i64 a0_0, .int .i64 a0_1, .int .i64 a0_2]] w fun e w' => e = .returned (.bool r) ∧ Below w.heap.size w w' := by
 have hu85 := Try.underlying85
 have HB := am_ (Below.refl w.heap.size w)
 have H : (if a0_0 = 1 then (some true) else (if a0_0 = 3 then (some true) else (some (a0_0 == 6)))) = some r := h
 clear h
 by_cases c2 : a0_0 = 1
 ·rw [if_pos c2] at H
  have c2b0 : (a0_0 == 1) = true := beq_iff_eq.mpr c2
  have c2b1 : (a0_0 != 1) = false := bne_eq_false_iff_eq.mpr c2
  clear c2
  obtain rfl := Option.some.inj H
  go_enter Try.func88, Try.ntmps88
  go_wp2_with (first | ((with_reducible refine gate_dst (N := 1) rfl ?_); refine box_event ?hg (N := 1) ?hd (cs := #[.int .i64 a0_0, .int .i64 a0_1, .int .i64 a0_2]) (t := 85) ?hr ?_; (case hd => rfl); (case hg => rfl); (case hr => first | (go_simp; done) | (go_simp; rfl)); intro gb199 hg w3 hbox hb; have n0_ := am_ (below_step z88_2 hb); have n1_ := am_ (hbox); have n2_ := am_ (by rw [hg]; exact (below_size z88_2) : w.heap.size ≤ gb199); have n3_ := am_ (by rw [hg]; exact (below_size z88_2) : w.heap.size ≤ gb199); clear HB; have HB := n0_; have BK199 := n1_; have GW199 := n2_; have GE199 := n3_; clear n0_ n1_ n2_ n3_; clear hb hbox hg; have hcz4_0 : w3.cell? ⟨gb199, 0, none⟩ = some (.int .i64 a0_0) := (blk_cell BK199.out 0).trans rfl; have hcz4_1 : w3.cell? ⟨gb199, 1, none⟩ = some (.int .i64 a0_1) := (blk_cell BK199.out 1).trans rfl; have hcz4_2 : w3.cell? ⟨gb199, 2, none⟩ = some (.int .i64 a0_2) := (blk_cell BK199.out 2).trans rfl; have hfz4_0 := blk_frozen BK199.out 0; have hfz4_1 := blk_frozen BK199.out 1; have hfz4_2 := blk_frozen BK199.out 2))
  go_ret
  exact ⟨z88_1, z88_3⟩
 ·rw [if_neg c2] at H
  have c2b0 : (a0_0 == 1) = false := beq_eq_false_iff_ne.mpr c2
  have c2b1 : (a0_0 != 1) = true := bne_iff_ne.mpr c2
  by_cases c5 : a0_0 = 3
  ·rw [if_pos c5] at H
   have c5b0 : (a0_0 == 3) = true := beq_iff_eq.mpr c5
   have c5b1 : (a0_0 != 3) = false := bne_eq_false_iff_eq.mpr c5
   clear c5
   obtain rfl := Option.some.inj H
   go_enter Try.func88, Try.ntmps88
   go_wp2_with (first | ((with_reducible refine gate_dst (N := 1) rfl ?_); refine box_event ?hg (N := 1) ?hd (cs := #[.int .i64 a0_0, .int .i64 a0_1, .int .i64 a0_2]) (t := 85) ?hr ?_; (case hd => rfl); (case hg => rfl); (case hr => first | (go_simp; done) | (go_simp; rfl)); intro gb199 hg w6 hbox hb; have n0_ := am_ (below_step z88_2 hb); have n1_ := am_ (hbox); have n2_ := am_ (by rw [hg]; exact (below_size z88_2) : w.heap.size ≤ gb199); have n3_ := am_ (by rw [hg]; exact (below_size z88_2) : w.heap.size ≤ gb199); clear HB; have HB := n0_; have BK199 := n1_; have GW199 := n2_; have GE199 := n3_; clear n0_ n1_ n2_ n3_; clear hb hbox hg; have hcz7_0 : w6.cell? ⟨gb199, 0, none⟩ = some (.int .i64 a0_0) := (blk_cell BK199.out 0).trans rfl; have hcz7_1 : w6.cell? ⟨gb199, 1, none⟩ = some (.int .i64 a0_1) := (blk_cell BK199.out 1).trans rfl; have hcz7_2 : w6.cell? ⟨gb199, 2, none⟩ = some (.int .i64 a0_2) := (blk_cell BK199.out 2).trans rfl; have hfz7_0 := blk_frozen BK199.out 0; have hfz7_1 := blk_frozen BK199.out 1; have hfz7_2 := blk_frozen BK199.out 2))
   go_ret
   exact ⟨z88_1, z88_3⟩
  ·rw [if_neg c5] at H
   have c5b0 : (a0_0 == 3) = false := beq_eq_false_iff_ne.mpr c5
   have c5b1 : (a0_0 != 3) = true := bne_iff_ne.mpr c5
   obtain rfl := Option.some.inj H
   go_enter Try.func88, Try.ntmps88
   go_wp2_with (first | ((with_reducible refine gate_dst (N := 1) rfl ?_); refine box_event ?hg (N := 1) ?hd (cs := #[.int .i64 a0_0, .int .i64 a0_1, .int .i64 a0_2]) (t := 85) ?hr ?_; (case hd => rfl); (case hg => rfl); (case hr => first | (go_simp; done) | (go_simp; rfl)); intro gb199 hg w8 hbox hb; have n0_ := am_ (below_step z88_2 hb); have n1_ := am_ (hbox); have n2_ := am_ (by rw [hg]; exact (below_size z88_2) : w.heap.size ≤ gb199); have n3_ := am_ (by rw [hg]; exact (below_size z88_2) : w.heap.size ≤ gb199); clear HB; have HB := n0_; have BK199 := n1_; have GW199 := n2_; have GE199 := n3_; clear n0_ n1_ n2_ n3_; clear hb hbox hg; have hcz9_0 : w8.cell? ⟨gb199, 0, none⟩ = some (.int .i64 a0_0) := (blk_cell BK199.out 0).trans rfl; have hcz9_1 : w8.cell? ⟨gb199, 1, none⟩ = some (.int .i64 a0_1) := (blk_cell BK199.out 1).trans rfl; have hcz9_2 : w8.cell? ⟨gb199, 2, none⟩ = some (.int .i64 a0_2) := (blk_cell BK199.out 2).trans rfl; have hfz9_0 := blk_frozen BK199.out 0; have hfz9_1 := blk_frozen BK199.out 1; have hfz9_2 := blk_frozen BK199.out 2))
   go_ret
   exact ⟨z88_1, z88_3⟩

end Go.Proofs.Ytefkbmhkhpekjaa.PB

namespace Go.Proofs.Ytefkbmhkhpekjaa.PB
open Go.RowKit Go.Proofs.YtefkbmhkhpekjaaW.PrintWords Go.Proofs.YtefkbmhkhpekjaaW.PrintLast Go.Proofs.YtefkbmhkhpekjaaW.PrintMore
attribute [local go_sem] max2_int min2_int max_two min_two max_three min_three max_four min_four   -- for this text's walks alone
open Go.Proofs.YtefkbmhkhpekjaaMine
set_option linter.unusedVariables false
set_option linter.unusedSimpArgs false

/-! ### spec_l6In: function 72 -/
def spec_l6In.f (a0 : Int) (a1 : Int) (a2 : Int) : Option (Bool) := if a0 ≥ a1 then (some (decide (a0 ≤ a2))) else (some false)
set_option maxHeartbeats 8000000 in
set_option maxRecDepth 100000 in
theorem spec_l6In.calls (a0 : Int) (a1 : Int) (a2 : Int) (r : Bool) (w : World) (h : spec_l6In.f a0 a1 a2 = some r) :
  Calls Try.prog 72 #[.int .i64 a0, .int .i64 a1, .int .i64 a2] w fun e w' => e = .returned (.bool r) ∧ Drawn0 w w' := by
 have H : (if a0 ≥ a1 then (some (decide (a0 ≤ a2))) else (some false)) = some r := h
 clear h
 by_cases c4 : a0 ≥ a1
 ·rw [if_pos c4] at H
  have c4b0 : decide (a1 ≤ a0) = true := decide_eq_true c4
  clear c4
  obtain rfl := Option.some.inj H
  go_enter Try.func72, Try.ntmps72
  go_wp2
  go_ret
  exact ⟨by first | rfl | (simp; done) | (simp [*]; done), by repeat (first | exact Drawn0.refl _ | apply Drawn0.step)⟩
 ·rw [if_neg c4] at H
  have c4b0 : decide (a1 ≤ a0) = false := decide_eq_false c4
  clear c4
  obtain rfl := Option.some.inj H
  go_enter Try.func72, Try.ntmps72
  go_wp2
  go_ret
  exact ⟨by first | rfl | (simp; done) | (simp [*]; done), by repeat (first | exact Drawn0.refl _ | apply Drawn0.step)⟩

end Go.Proofs.Ytefkbmhkhpekjaa.PB

namespace Go.Proofs.Ytefkbmhkhpekjaa.PB
open Go.RowKit Go.Proofs.YtefkbmhkhpekjaaW.PrintWords Go.Proofs.YtefkbmhkhpekjaaW.PrintLast Go.Proofs.YtefkbmhkhpekjaaW.PrintMore
attribute [local go_sem] max2_int min2_int max_two min_two max_three min_three max_four min_four   -- for this text's walks alone
open Go.Proofs.YtefkbmhkhpekjaaMine
set_option linter.unusedVariables false
set_option linter.unusedSimpArgs false

theorem z125_1 {p : Prop} (h : p := by first | rfl | (simp [errW_none, errW_some] <;> rfl) | (simp [*, errW_none, errW_some] <;> rfl)) : p := h
theorem z125_2 {p : Prop} (h : p := by repeat (first | (with_reducible first | exact HB.out | apply below_alloc | apply pw_below_drewN | apply below_drew1) | exact HB.out)) : p := h
theorem z125_3 {p : Prop} (h : p := by repeat (first | (with_reducible first | exact HB.out | apply below_alloc | apply pw_below_drewN | apply below_drew1 | refine below_set ?_ GE605.out) | exact HB.out)) : p := h
/-! ### spec_l1Do: function 125 -/
def spec_l1Do.j0 : Nat → Bool → Int → Int → Int → Option (Bool)
  | 0, _, _, _, _ => none
  | k + 1, x3, x606000, x606001, x606002 => (spec_l1Reads.f x606000 x606001 x606002).bind fun t606 => (if t606 = true then ((spec_l6In.f x606000 1 9).bind fun t607 => (if t607 = true then ((spec_l6In.f x606001 0 2).bind fun t608 => (if t608 = true then (if x3 = true then ((spec_l6In.f x606002 1 3).bind fun t609 => (if t609 = true then (some true) else (some false))) else (some (x606002 == 0))) else (some false))) else (some false))) else ((spec_l1Writes.f x606000 x606001 x606002).bind fun t610 => ((spec_l6In.f x606000 1 9).bind fun t611 => (if t611 = true then (if t610 = true then ((spec_l6In.f x606001 0 2).bind fun t612 => (if t612 = true then (if x3 = true then ((spec_l6In.f x606002 1 3).bind fun t613 => (if t613 = true then (some true) else (some false))) else (some (x606002 == 0))) else (some false))) else (if x606001 = 0 then (if x3 = true then ((spec_l6In.f x606002 1 3).bind fun t614 => (if t614 = true then (some true) else (some false))) else (some (x606002 == 0))) else (some false))) else (some false)))))
def spec_l1Do.f (k : Nat) (a0_0 : Int) (a0_1 : Int) (a0_2 : Int) : Option (Bool) := if a0_0 = 1 then (spec_l1Do.j0 k true a0_0 a0_1 a0_2) else (spec_l1Do.j0 k (a0_0 == 6) a0_0 a0_1 a0_2)
theorem spec_l1Do.mono_l : ∀ k, (∀ y0 y1 y2 y3, LeO (spec_l1Do.j0 k y0 y1 y2 y3) (spec_l1Do.j0 (k + 1) y0 y1 y2 y3))
  | 0 => fun _ _ _ _ r h => by simp [spec_l1Do.j0] at h
  | k + 1 => by
    have ih0 := spec_l1Do.mono_l k
    · intro y0 y1 y2 y3
      unfold spec_l1Do.j0
      repeat' first
      | (with_reducible exact ih0 _ _ _ _)
      | (with_reducible exact LeO.refl _)
      | (with_reducible exact LeO.none _)
      | (with_reducible refine LeO.ite ?_ ?_)
      | (with_reducible refine LeO.bind ?_ (fun _ => ?_))
      | exact ih0 _ _ _ _
      | exact LeO.none _
      | refine LeO.ite ?_ ?_
      | refine LeO.bind ?_ (fun _ => ?_)
theorem spec_l1Do.mono : ∀ a0 a1 a2 k, LeO (spec_l1Do.f k a0 a1 a2) (spec_l1Do.f (k + 1) a0 a1 a2) := by
  intro a0 a1 a2 k
  have ih0 := spec_l1Do.mono_l k
  unfold spec_l1Do.f
  repeat' first
      | (with_reducible exact ih0 _ _ _ _)
      | (with_reducible exact LeO.refl _)
      | (with_reducible exact LeO.none _)
      | (with_reducible refine LeO.ite ?_ ?_)
      | (with_reducible refine LeO.bind ?_ (fun _ => ?_))
      | exact ih0 _ _ _ _
      | exact LeO.none _
      | refine LeO.ite ?_ ?_
      | refine LeO.bind ?_ (fun _ => ?_)
set_option maxHeartbeats 8000000 in
set_option maxRecDepth 100000 in
theorem spec_l1Do.calls (k : Nat) (a0_0 : Int) (a0_1 : Int) (a0_2 : Int) (r : Bool) (w : World) (h : spec_l1Do.f k a0_0 a0_1 a0_2 = some r) :
  Calls Try.prog 125 #[.agg #[.int .i64 a0_0, .int .i64 a0_1, .int .i64 a0_2]] w fun e w' => e = .returned (.bool r) ∧ Below w.heap.size w w' := by
 have hu85 := Try.underlying85
 have HB := am_ (Below.refl w.heap.size w)
 have H : (if a0_0 = 1 then (spec_l1Do.j0 k true a0_0 a0_1 a0_2) else (spec_l1Do.j0 k (a0_0 == 6) a0_0 a0_1 a0_2)) = some r := h
 clear h
 have HC2 := am_ H
 clear H
 go_enter Try.func125, Try.ntmps125
 go_upto_region 1 with (first | ((with_reducible refine gate_dst (N := 1) rfl ?_); refine box_event ?hg (N := 1) ?hd (cs := #[.int .i64 a0_0, .int .i64 a0_1, .int .i64 a0_2]) (t := 85) ?hr ?_; (case hd => rfl); (case hg => rfl); (case hr => first | (go_simp; done) | (go_simp; rfl)); intro gb605 hg w3 hbox hb; have n0_ := am_ (below_step z125_2 hb); have n1_ := am_ (hbox); have n2_ := am_ (by rw [hg]; exact (below_size z125_2) : w.heap.size ≤ gb605); have n3_ := am_ (by rw [hg]; exact (below_size z125_2) : w.heap.size ≤ gb605); clear HB; have HB := n0_; have BK605 := n1_; have GW605 := n2_; have GE605 := n3_; clear n0_ n1_ n2_ n3_; clear hb hbox hg))
 (try simp only [Act.put, List.setIfInBounds_toArray, List.set_cons_zero, List.set_cons_succ])
 go_cut [3] (fun v3 wc => ∃ (kq : Nat) (x3_1 : Bool), v3 = .bool x3_1 ∧ Aside0 (spec_l1Do.j0 kq x3_1 a0_0 a0_1 a0_2 = some r) ∧ Aside0 (kq ≤ k) ∧ Aside0 (wc.heap[gb605]? = some (.cells #[.int .i64 a0_0, .int .i64 a0_1, .int .i64 a0_2] 85 (0, 0))) ∧ Aside0 (Below w.heap.size w wc))
 case first =>
  have H := HC2.out
  clear HC2
  by_cases c4 : a0_0 = 1
  ·rw [if_pos c4] at H
   have c4b0 : (a0_0 == 1) = true := beq_iff_eq.mpr c4
   have c4b1 : (a0_0 != 1) = false := bne_eq_false_iff_eq.mpr c4
   clear c4
   (first | rw [c4b0] | (simp only [i64_w, i32_w]; rw [c4b0]) | skip)
   have H' := am_ H
   clear H
   have hcz5_0 : w3.cell? ⟨gb605, 0, none⟩ = some (.int .i64 a0_0) := (blk_cell BK605.out 0).trans rfl
   have hcz5_1 : w3.cell? ⟨gb605, 1, none⟩ = some (.int .i64 a0_1) := (blk_cell BK605.out 1).trans rfl
   have hcz5_2 : w3.cell? ⟨gb605, 2, none⟩ = some (.int .i64 a0_2) := (blk_cell BK605.out 2).trans rfl
   have hfz5_0 := blk_frozen BK605.out 0
   have hfz5_1 := blk_frozen BK605.out 1
   have hfz5_2 := blk_frozen BK605.out 2
   go_wp2
   go_meet
   case rel => exact ⟨_, (true), (by first | rfl | (simp; done) | (simp [*]; done)), H', ⟨by first | omega | exact Nat.le_refl _⟩, ⟨bu BK605.out⟩, ⟨z125_3⟩⟩
  ·rw [if_neg c4] at H
   have c4b0 : (a0_0 == 1) = false := beq_eq_false_iff_ne.mpr c4
   have c4b1 : (a0_0 != 1) = true := bne_iff_ne.mpr c4
   (first | rw [c4b0] | (simp only [i64_w, i32_w]; rw [c4b0]) | skip)
   have H' := am_ H
   clear H
   have hcz6_0 : w3.cell? ⟨gb605, 0, none⟩ = some (.int .i64 a0_0) := (blk_cell BK605.out 0).trans rfl
   have hcz6_1 : w3.cell? ⟨gb605, 1, none⟩ = some (.int .i64 a0_1) := (blk_cell BK605.out 1).trans rfl
   have hcz6_2 : w3.cell? ⟨gb605, 2, none⟩ = some (.int .i64 a0_2) := (blk_cell BK605.out 2).trans rfl
   have hfz6_0 := blk_frozen BK605.out 0
   have hfz6_1 := blk_frozen BK605.out 1
   have hfz6_2 := blk_frozen BK605.out 2
   go_wp2
   go_meet
   case rel => exact ⟨_, ((a0_0 == 6)), (by first | rfl | (simp; done) | (simp [*]; done)), H', ⟨by first | omega | exact Nat.le_refl _⟩, ⟨bu BK605.out⟩, ⟨z125_3⟩⟩
 case rest =>
  clear HC2
  obtain ⟨kq, x3_1, rfl, HA, HJ1, BK605, HB⟩ := hcut
  cases kq with
  | zero => exact absurd HA.out (by simp [spec_l1Do.j0])
  | succ kj1 =>
   have H := HA.out
   clear HA
   simp only [spec_l1Do.j0] at H
   replace H := Option.bind_eq_some_iff.mp H
   obtain ⟨t606, A70, H⟩ := H
   replace H : (if t606 = true then ((spec_l6In.f a0_0 1 9).bind fun t607 => (if t607 = true then ((spec_l6In.f a0_1 0 2).bind fun t608 => (if t608 = true then (if x3_1 = true then ((spec_l6In.f a0_2 1 3).bind fun t609 => (if t609 = true then (some true) else (some false))) else (some (a0_2 == 0))) else (some false))) else (some false))) else ((spec_l1Writes.f a0_0 a0_1 a0_2).bind fun t610 => ((spec_l6In.f a0_0 1 9).bind fun t611 => (if t611 = true then (if t610 = true then ((spec_l6In.f a0_1 0 2).bind fun t612 => (if t612 = true then (if x3_1 = true then ((spec_l6In.f a0_2 1 3).bind fun t613 => (if t613 = true then (some true) else (some false))) else (some (a0_2 == 0))) else (some false))) else (if a0_1 = 0 then (if x3_1 = true then ((spec_l6In.f a0_2 1 3).bind fun t614 => (if t614 = true then (some true) else (some false))) else (some (a0_2 == 0))) else (some false))) else (some false))))) = some r := H
   have A7 := am_ A70
   clear A70
   by_cases c8 : t606 = true
   ·subst c8
    have H1 : ((spec_l6In.f a0_0 1 9).bind fun t607 => (if t607 = true then ((spec_l6In.f a0_1 0 2).bind fun t608 => (if t608 = true then (if x3_1 = true then ((spec_l6In.f a0_2 1 3).bind fun t609 => (if t609 = true then (some true) else (some false))) else (some (a0_2 == 0))) else (some false))) else (some false))) = some r := by rw [if_pos rfl] at H; exact H
    clear H
    have H := H1
    clear H1
    replace H := Option.bind_eq_some_iff.mp H
    obtain ⟨t607, A90, H⟩ := H
    replace H : (if t607 = true then ((spec_l6In.f a0_1 0 2).bind fun t608 => (if t608 = true then (if x3_1 = true then ((spec_l6In.f a0_2 1 3).bind fun t609 => (if t609 = true then (some true) else (some false))) else (some (a0_2 == 0))) else (some false))) else (some false)) = some r := H
    have A9 := am_ A90
    clear A90
    by_cases c10 : t607 = true
    ·subst c10
     have H1 : ((spec_l6In.f a0_1 0 2).bind fun t608 => (if t608 = true then (if x3_1 = true then ((spec_l6In.f a0_2 1 3).bind fun t609 => (if t609 = true then (some true) else (some false))) else (some (a0_2 == 0))) else (some false))) = some r := by rw [if_pos rfl] at H; exact H
     clear H
     have H := H1
     clear H1
     replace H := Option.bind_eq_some_iff.mp H
     obtain ⟨t608, A110, H⟩ := H
     replace H : (if t608 = true then (if x3_1 = true then ((spec_l6In.f a0_2 1 3).bind fun t609 => (if t609 = true then (some true) else (some false))) else (some (a0_2 == 0))) else (some false)) = some r := H
     have A11 := am_ A110
     clear A110
     by_cases c12 : t608 = true
     ·subst c12
      have H1 : (if x3_1 = true then ((spec_l6In.f a0_2 1 3).bind fun t609 => (if t609 = true then (some true) else (some false))) else (some (a0_2 == 0))) = some r := by rw [if_pos rfl] at H; exact H
      clear H
      have H := H1
      clear H1
      by_cases c13 : x3_1 = true
      ·subst c13
       have H1 : ((spec_l6In.f a0_2 1 3).bind fun t609 => (if t609 = true then (some true) else (some false))) = some r := by rw [if_pos rfl] at H; exact H
       clear H
       have H := H1
       clear H1
       replace H := Option.bind_eq_some_iff.mp H
       obtain ⟨t609, A140, H⟩ := H
       replace H : (if t609 = true then (some true) else (some false)) = some r := H
       have A14 := am_ A140
       clear A140
       by_cases c15 : t609 = true
       ·subst c15
        have H1 : (some true) = some r := by rw [if_pos rfl] at H; exact H
        clear H
        have H := H1
        clear H1
        obtain rfl := Option.some.inj H
        have hcz16_0 : wc.cell? ⟨gb605, 0, none⟩ = some (.int .i64 a0_0) := (blk_cell BK605.out 0).trans rfl
        have hcz16_1 : wc.cell? ⟨gb605, 1, none⟩ = some (.int .i64 a0_1) := (blk_cell BK605.out 1).trans rfl
        have hcz16_2 : wc.cell? ⟨gb605, 2, none⟩ = some (.int .i64 a0_2) := (blk_cell BK605.out 2).trans rfl
        have hfz16_0 := blk_frozen BK605.out 0
        have hfz16_1 := blk_frozen BK605.out 1
        have hfz16_2 := blk_frozen BK605.out 2
        go_wp2_with (first | ((with_reducible refine gate_callee (f := 87) rfl ?_); refine goesL_ (some 14) rfl rfl Try.func87 (by kernel_rfl) rfl #[.agg #[.int .i64 a0_0, .int .i64 a0_1, .int .i64 a0_2]] rfl (by (try simp only [List.map_toArray, List.map_cons, List.map_nil]); first | done | rfl | (simp only [List.length_drop, List.length_take]; rfl)) ?_; (with_reducible refine (spec_l1Reads.calls a0_0 a0_1 a0_2 true _ A7.out).mono ?_); rintro e w17 ⟨rfl, hb⟩; refine ⟨_, rfl, ?_⟩; have n0_ := am_ (blk_below (bu BK605.out) hb); have n1_ := am_ (below_step z125_3 hb); clear BK605 HB; have BK605 := n0_; have HB := n1_; clear n0_ n1_; (try clear hb); (try clear hb2); (try clear hk); (try clear hi); have hcz18_0 : w17.cell? ⟨gb605, 0, none⟩ = some (.int .i64 a0_0) := (blk_cell BK605.out 0).trans rfl; have hcz18_1 : w17.cell? ⟨gb605, 1, none⟩ = some (.int .i64 a0_1) := (blk_cell BK605.out 1).trans rfl; have hcz18_2 : w17.cell? ⟨gb605, 2, none⟩ = some (.int .i64 a0_2) := (blk_cell BK605.out 2).trans rfl; have hfz18_0 := blk_frozen BK605.out 0; have hfz18_1 := blk_frozen BK605.out 1; have hfz18_2 := blk_frozen BK605.out 2) | ((with_reducible refine gate_callee (f := 72) rfl ?_); refine goesL_ (some 21) rfl rfl Try.func72 (by kernel_rfl) rfl #[.int .i64 a0_0, .int .i64 1, .int .i64 9] rfl (by (try simp only [List.map_toArray, List.map_cons, List.map_nil]); first | done | rfl | (simp only [List.length_drop, List.length_take]; rfl)) ?_; (with_reducible refine (spec_l6In.calls a0_0 1 9 true _ A9.out).mono ?_); rintro e w' ⟨rfl, ⟨nd, rfl⟩⟩; refine ⟨_, rfl, ?_⟩) | (go_at_call 72; (with_reducible refine (spec_l6In.calls a0_1 0 2 true _ A11.out).mono ?_); rintro e w' ⟨rfl, ⟨nd, rfl⟩⟩) | (go_at_call 72; (with_reducible refine (spec_l6In.calls a0_2 1 3 true _ A14.out).mono ?_); rintro e w' ⟨rfl, ⟨nd, rfl⟩⟩))
        go_ret
        exact ⟨z125_1, z125_3⟩
       ·replace c15 := Bool.eq_false_iff.mpr c15
        subst c15
        have H1 : (some false) = some r := by rw [if_neg (show ¬ (false = true) by decide)] at H; exact H
        clear H
        have H := H1
        clear H1
        obtain rfl := Option.some.inj H
        have hcz19_0 : wc.cell? ⟨gb605, 0, none⟩ = some (.int .i64 a0_0) := (blk_cell BK605.out 0).trans rfl
        have hcz19_1 : wc.cell? ⟨gb605, 1, none⟩ = some (.int .i64 a0_1) := (blk_cell BK605.out 1).trans rfl
        have hcz19_2 : wc.cell? ⟨gb605, 2, none⟩ = some (.int .i64 a0_2) := (blk_cell BK605.out 2).trans rfl
        have hfz19_0 := blk_frozen BK605.out 0
        have hfz19_1 := blk_frozen BK605.out 1
        have hfz19_2 := blk_frozen BK605.out 2
        go_wp2_with (first | ((with_reducible refine gate_callee (f := 87) rfl ?_); refine goesL_ (some 14) rfl rfl Try.func87 (by kernel_rfl) rfl #[.agg #[.int .i64 a0_0, .int .i64 a0_1, .int .i64 a0_2]] rfl (by (try simp only [List.map_toArray, List.map_cons, List.map_nil]); first | done | rfl | (simp only [List.length_drop, List.length_take]; rfl)) ?_; (with_reducible refine (spec_l1Reads.calls a0_0 a0_1 a0_2 true _ A7.out).mono ?_); rintro e w20 ⟨rfl, hb⟩; refine ⟨_, rfl, ?_⟩; have n0_ := am_ (blk_below (bu BK605.out) hb); have n1_ := am_ (below_step z125_3 hb); clear BK605 HB; have BK605 := n0_; have HB := n1_; clear n0_ n1_; (try clear hb); (try clear hb2); (try clear hk); (try clear hi); have hcz21_0 : w20.cell? ⟨gb605, 0, none⟩ = some (.int .i64 a0_0) := (blk_cell BK605.out 0).trans rfl; have hcz21_1 : w20.cell? ⟨gb605, 1, none⟩ = some (.int .i64 a0_1) := (blk_cell BK605.out 1).trans rfl; have hcz21_2 : w20.cell? ⟨gb605, 2, none⟩ = some (.int .i64 a0_2) := (blk_cell BK605.out 2).trans rfl; have hfz21_0 := blk_frozen BK605.out 0; have hfz21_1 := blk_frozen BK605.out 1; have hfz21_2 := blk_frozen BK605.out 2) | ((with_reducible refine gate_callee (f := 72) rfl ?_); refine goesL_ (some 21) rfl rfl Try.func72 (by kernel_rfl) rfl #[.int .i64 a0_0, .int .i64 1, .int .i64 9] rfl (by (try simp only [List.map_toArray, List.map_cons, List.map_nil]); first | done | rfl | (simp only [List.length_drop, List.length_take]; rfl)) ?_; (with_reducible refine (spec_l6In.calls a0_0 1 9 true _ A9.out).mono ?_); rintro e w' ⟨rfl, ⟨nd, rfl⟩⟩; refine ⟨_, rfl, ?_⟩) | (go_at_call 72; (with_reducible refine (spec_l6In.calls a0_1 0 2 true _ A11.out).mono ?_); rintro e w' ⟨rfl, ⟨nd, rfl⟩⟩) | (go_at_call 72; (with_reducible refine (spec_l6In.calls a0_2 1 3 false _ A14.out).mono ?_); rintro e w' ⟨rfl, ⟨nd, rfl⟩⟩))
        go_ret
        exact ⟨z125_1, z125_3⟩
      ·replace c13 := Bool.eq_false_iff.mpr c13
       subst c13
       have H1 : (some (a0_2 == 0)) = some r := by rw [if_neg (show ¬ (false = true) by decide)] at H; exact H
       clear H
       have H := H1
       clear H1
       obtain rfl := Option.some.inj H
       have hcz22_0 : wc.cell? ⟨gb605, 0, none⟩ = some (.int .i64 a0_0) := (blk_cell BK605.out 0).trans rfl
       have hcz22_1 : wc.cell? ⟨gb605, 1, none⟩ = some (.int .i64 a0_1) := (blk_cell BK605.out 1).trans rfl
       have hcz22_2 : wc.cell? ⟨gb605, 2, none⟩ = some (.int .i64 a0_2) := (blk_cell BK605.out 2).trans rfl
       have hfz22_0 := blk_frozen BK605.out 0
       have hfz22_1 := blk_frozen BK605.out 1
       have hfz22_2 := blk_frozen BK605.out 2
       go_wp2_with (first | ((with_reducible refine gate_callee (f := 87) rfl ?_); refine goesL_ (some 14) rfl rfl Try.func87 (by kernel_rfl) rfl #[.agg #[.int .i64 a0_0, .int .i64 a0_1, .int .i64 a0_2]] rfl (by (try simp only [List.map_toArray, List.map_cons, List.map_nil]); first | done | rfl | (simp only [List.length_drop, List.length_take]; rfl)) ?_; (with_reducible refine (spec_l1Reads.calls a0_0 a0_1 a0_2 true _ A7.out).mono ?_); rintro e w23 ⟨rfl, hb⟩; refine ⟨_, rfl, ?_⟩; have n0_ := am_ (blk_below (bu BK605.out) hb); have n1_ := am_ (below_step z125_3 hb); clear BK605 HB; have BK605 := n0_; have HB := n1_; clear n0_ n1_; (try clear hb); (try clear hb2); (try clear hk); (try clear hi); have hcz24_0 : w23.cell? ⟨gb605, 0, none⟩ = some (.int .i64 a0_0) := (blk_cell BK605.out 0).trans rfl; have hcz24_1 : w23.cell? ⟨gb605, 1, none⟩ = some (.int .i64 a0_1) := (blk_cell BK605.out 1).trans rfl; have hcz24_2 : w23.cell? ⟨gb605, 2, none⟩ = some (.int .i64 a0_2) := (blk_cell BK605.out 2).trans rfl; have hfz24_0 := blk_frozen BK605.out 0; have hfz24_1 := blk_frozen BK605.out 1; have hfz24_2 := blk_frozen BK605.out 2) | ((with_reducible refine gate_callee (f := 72) rfl ?_); refine goesL_ (some 21) rfl rfl Try.func72 (by kernel_rfl) rfl #[.int .i64 a0_0, .int .i64 1, .int .i64 9] rfl (by (try simp only [List.map_toArray, List.map_cons, List.map_nil]); first | done | rfl | (simp only [List.length_drop, List.length_take]; rfl)) ?_; (with_reducible refine (spec_l6In.calls a0_0 1 9 true _ A9.out).mono ?_); rintro e w' ⟨rfl, ⟨nd, rfl⟩⟩; refine ⟨_, rfl, ?_⟩) | (go_at_call 72; (with_reducible refine (spec_l6In.calls a0_1 0 2 true _ A11.out).mono ?_); rintro e w' ⟨rfl, ⟨nd, rfl⟩⟩))
       go_ret
       exact ⟨z125_1, z125_3⟩
     ·replace c12 := Bool.eq_false_iff.mpr c12
      subst c12
      have H1 : (some false) = some r := by rw [if_neg (show ¬ (false = true) by decide)] at H; exact H
      clear H
      have H := H1
      clear H1
      obtain rfl := Option.some.inj H
      have hcz25_0 : wc.cell? ⟨gb605, 0, none⟩ = some (.int .i64 a0_0) := (blk_cell BK605.out 0).trans rfl
      have hcz25_1 : wc.cell? ⟨gb605, 1, none⟩ = some (.int .i64 a0_1) := (blk_cell BK605.out 1).trans rfl
      have hcz25_2 : wc.cell? ⟨gb605, 2, none⟩ = some (.int .i64 a0_2) := (blk_cell BK605.out 2).trans rfl
      have hfz25_0 := blk_frozen BK605.out 0
      have hfz25_1 := blk_frozen BK605.out 1
      have hfz25_2 := blk_frozen BK605.out 2
      go_wp2_with (first | ((with_reducible refine gate_callee (f := 87) rfl ?_); refine goesL_ (some 14) rfl rfl Try.func87 (by kernel_rfl) rfl #[.agg #[.int .i64 a0_0, .int .i64 a0_1, .int .i64 a0_2]] rfl (by (try simp only [List.map_toArray, List.map_cons, List.map_nil]); first | done | rfl | (simp only [List.length_drop, List.length_take]; rfl)) ?_; (with_reducible refine (spec_l1Reads.calls a0_0 a0_1 a0_2 true _ A7.out).mono ?_); rintro e w26 ⟨rfl, hb⟩; refine ⟨_, rfl, ?_⟩; have n0_ := am_ (blk_below (bu BK605.out) hb); have n1_ := am_ (below_step z125_3 hb); clear BK605 HB; have BK605 := n0_; have HB := n1_; clear n0_ n1_; (try clear hb); (try clear hb2); (try clear hk); (try clear hi); have hcz27_0 : w26.cell? ⟨gb605, 0, none⟩ = some (.int .i64 a0_0) := (blk_cell BK605.out 0).trans rfl; have hcz27_1 : w26.cell? ⟨gb605, 1, none⟩ = some (.int .i64 a0_1) := (blk_cell BK605.out 1).trans rfl; have hcz27_2 : w26.cell? ⟨gb605, 2, none⟩ = some (.int .i64 a0_2) := (blk_cell BK605.out 2).trans rfl; have hfz27_0 := blk_frozen BK605.out 0; have hfz27_1 := blk_frozen BK605.out 1; have hfz27_2 := blk_frozen BK605.out 2) | ((with_reducible refine gate_callee (f := 72) rfl ?_); refine goesL_ (some 21) rfl rfl Try.func72 (by kernel_rfl) rfl #[.int .i64 a0_0, .int .i64 1, .int .i64 9] rfl (by (try simp only [List.map_toArray, List.map_cons, List.map_nil]); first | done | rfl | (simp only [List.length_drop, List.length_take]; rfl)) ?_; (with_reducible refine (spec_l6In.calls a0_0 1 9 true _ A9.out).mono ?_); rintro e w' ⟨rfl, ⟨nd, rfl⟩⟩; refine ⟨_, rfl, ?_⟩) | (go_at_call 72; (with_reducible refine (spec_l6In.calls a0_1 0 2 false _ A11.out).mono ?_); rintro e w' ⟨rfl, ⟨nd, rfl⟩⟩))
      go_ret
      exact ⟨z125_1, z125_3⟩
    ·replace c10 := Bool.eq_false_iff.mpr c10
     subst c10
     have H1 : (some false) = some r := by rw [if_neg (show ¬ (false = true) by decide)] at H; exact H
     clear H
     have H := H1
     clear H1
     obtain rfl := Option.some.inj H
     have hcz28_0 : wc.cell? ⟨gb605, 0, none⟩ = some (.int .i64 a0_0) := (blk_cell BK605.out 0).trans rfl
     have hcz28_1 : wc.cell? ⟨gb605, 1, none⟩ = some (.int .i64 a0_1) := (blk_cell BK605.out 1).trans rfl
     have hcz28_2 : wc.cell? ⟨gb605, 2, none⟩ = some (.int .i64 a0_2) := (blk_cell BK605.out 2).trans rfl
     have hfz28_0 := blk_frozen BK605.out 0
     have hfz28_1 := blk_frozen BK605.out 1
     have hfz28_2 := blk_frozen BK605.out 2
     go_wp2_with (first | ((with_reducible refine gate_callee (f := 87) rfl ?_); refine goesL_ (some 14) rfl rfl Try.func87 (by kernel_rfl) rfl #[.agg #[.int .i64 a0_0, .int .i64 a0_1, .int .i64 a0_2]] rfl (by (try simp only [List.map_toArray, List.map_cons, List.map_nil]); first | done | rfl | (simp only [List.length_drop, List.length_take]; rfl)) ?_; (with_reducible refine (spec_l1Reads.calls a0_0 a0_1 a0_2 true _ A7.out).mono ?_); rintro e w29 ⟨rfl, hb⟩; refine ⟨_, rfl, ?_⟩; have n0_ := am_ (blk_below (bu BK605.out) hb); have n1_ := am_ (below_step z125_3 hb); clear BK605 HB; have BK605 := n0_; have HB := n1_; clear n0_ n1_; (try clear hb); (try clear hb2); (try clear hk); (try clear hi); have hcz30_0 : w29.cell? ⟨gb605, 0, none⟩ = some (.int .i64 a0_0) := (blk_cell BK605.out 0).trans rfl; have hcz30_1 : w29.cell? ⟨gb605, 1, none⟩ = some (.int .i64 a0_1) := (blk_cell BK605.out 1).trans rfl; have hcz30_2 : w29.cell? ⟨gb605, 2, none⟩ = some (.int .i64 a0_2) := (blk_cell BK605.out 2).trans rfl; have hfz30_0 := blk_frozen BK605.out 0; have hfz30_1 := blk_frozen BK605.out 1; have hfz30_2 := blk_frozen BK605.out 2) | ((with_reducible refine gate_callee (f := 72) rfl ?_); refine goesL_ (some 21) rfl rfl Try.func72 (by kernel_rfl) rfl #[.int .i64 a0_0, .int .i64 1, .int .i64 9] rfl (by (try simp only [List.map_toArray, List.map_cons, List.map_nil]); first | done | rfl | (simp only [List.length_drop, List.length_take]; rfl)) ?_; (with_reducible refine (spec_l6In.calls a0_0 1 9 false _ A9.out).mono ?_); rintro e w' ⟨rfl, ⟨nd, rfl⟩⟩; refine ⟨_, rfl, ?_⟩))
     go_ret
     exact ⟨z125_1, z125_3⟩
   ·replace c8 := Bool.eq_false_iff.mpr c8
    subst c8
    have H1 : ((spec_l1Writes.f a0_0 a0_1 a0_2).bind fun t610 => ((spec_l6In.f a0_0 1 9).bind fun t611 => (if t611 = true then (if t610 = true then ((spec_l6In.f a0_1 0 2).bind fun t612 => (if t612 = true then (if x3_1 = true then ((spec_l6In.f a0_2 1 3).bind fun t613 => (if t613 = true then (some true) else (some false))) else (some (a0_2 == 0))) else (some false))) else (if a0_1 = 0 then (if x3_1 = true then ((spec_l6In.f a0_2 1 3).bind fun t614 => (if t614 = true then (some true) else (some false))) else (some (a0_2 == 0))) else (some false))) else (some false)))) = some r := by rw [if_neg (show ¬ (false = true) by decide)] at H; exact H
    clear H
    have H := H1
    clear H1
    replace H := Option.bind_eq_some_iff.mp H
    obtain ⟨t610, A310, H⟩ := H
    replace H : ((spec_l6In.f a0_0 1 9).bind fun t611 => (if t611 = true then (if t610 = true then ((spec_l6In.f a0_1 0 2).bind fun t612 => (if t612 = true then (if x3_1 = true then ((spec_l6In.f a0_2 1 3).bind fun t613 => (if t613 = true then (some true) else (some false))) else (some (a0_2 == 0))) else (some false))) else (if a0_1 = 0 then (if x3_1 = true then ((spec_l6In.f a0_2 1 3).bind fun t614 => (if t614 = true then (some true) else (some false))) else (some (a0_2 == 0))) else (some false))) else (some false))) = some r := H
    have A31 := am_ A310
    clear A310
    replace H := Option.bind_eq_some_iff.mp H
    obtain ⟨t611, A320, H⟩ := H
    replace H : (if t611 = true then (if t610 = true then ((spec_l6In.f a0_1 0 2).bind fun t612 => (if t612 = true then (if x3_1 = true then ((spec_l6In.f a0_2 1 3).bind fun t613 => (if t613 = true then (some true) else (some false))) else (some (a0_2 == 0))) else (some false))) else (if a0_1 = 0 then (if x3_1 = true then ((spec_l6In.f a0_2 1 3).bind fun t614 => (if t614 = true then (some true) else (some false))) else (some (a0_2 == 0))) else (some false))) else (some false)) = some r := H
    have A32 := am_ A320
    clear A320
    by_cases c33 : t611 = true
    ·subst c33
     have H1 : (if t610 = true then ((spec_l6In.f a0_1 0 2).bind fun t612 => (if t612 = true then (if x3_1 = true then ((spec_l6In.f a0_2 1 3).bind fun t613 => (if t613 = true then (some true) else (some false))) else (some (a0_2 == 0))) else (some false))) else (if a0_1 = 0 then (if x3_1 = true then ((spec_l6In.f a0_2 1 3).bind fun t614 => (if t614 = true then (some true) else (some false))) else (some (a0_2 == 0))) else (some false))) = some r := by rw [if_pos rfl] at H; exact H
     clear H
     have H := H1
     clear H1
     by_cases c34 : t610 = true
     ·subst c34
      have H1 : ((spec_l6In.f a0_1 0 2).bind fun t612 => (if t612 = true then (if x3_1 = true then ((spec_l6In.f a0_2 1 3).bind fun t613 => (if t613 = true then (some true) else (some false))) else (some (a0_2 == 0))) else (some false))) = some r := by rw [if_pos rfl] at H; exact H
      clear H
      have H := H1
      clear H1
      replace H := Option.bind_eq_some_iff.mp H
      obtain ⟨t612, A350, H⟩ := H
      replace H : (if t612 = true then (if x3_1 = true then ((spec_l6In.f a0_2 1 3).bind fun t613 => (if t613 = true then (some true) else (some false))) else (some (a0_2 == 0))) else (some false)) = some r := H
      have A35 := am_ A350
      clear A350
      by_cases c36 : t612 = true
      ·subst c36
       have H1 : (if x3_1 = true then ((spec_l6In.f a0_2 1 3).bind fun t613 => (if t613 = true then (some true) else (some false))) else (some (a0_2 == 0))) = some r := by rw [if_pos rfl] at H; exact H
       clear H
       have H := H1
       clear H1
       by_cases c37 : x3_1 = true
       ·subst c37
        have H1 : ((spec_l6In.f a0_2 1 3).bind fun t613 => (if t613 = true then (some true) else (some false))) = some r := by rw [if_pos rfl] at H; exact H
        clear H
        have H := H1
        clear H1
        replace H := Option.bind_eq_some_iff.mp H
        obtain ⟨t613, A380, H⟩ := H
        replace H : (if t613 = true then (some true) else (some false)) = some r := H
        have A38 := am_ A380
        clear A380
        by_cases c39 : t613 = true
        ·subst c39
         have H1 : (some true) = some r := by rw [if_pos rfl] at H; exact H
         clear H
         have H := H1
         clear H1
         obtain rfl := Option.some.inj H
         have hcz40_0 : wc.cell? ⟨gb605, 0, none⟩ = some (.int .i64 a0_0) := (blk_cell BK605.out 0).trans rfl
         have hcz40_1 : wc.cell? ⟨gb605, 1, none⟩ = some (.int .i64 a0_1) := (blk_cell BK605.out 1).trans rfl
         have hcz40_2 : wc.cell? ⟨gb605, 2, none⟩ = some (.int .i64 a0_2) := (blk_cell BK605.out 2).trans rfl
         have hfz40_0 := blk_frozen BK605.out 0
         have hfz40_1 := blk_frozen BK605.out 1
         have hfz40_2 := blk_frozen BK605.out 2
         go_wp2_with (first | ((with_reducible refine gate_callee (f := 87) rfl ?_); refine goesL_ (some 14) rfl rfl Try.func87 (by kernel_rfl) rfl #[.agg #[.int .i64 a0_0, .int .i64 a0_1, .int .i64 a0_2]] rfl (by (try simp only [List.map_toArray, List.map_cons, List.map_nil]); first | done | rfl | (simp only [List.length_drop, List.length_take]; rfl)) ?_; (with_reducible refine (spec_l1Reads.calls a0_0 a0_1 a0_2 false _ A7.out).mono ?_); rintro e w41 ⟨rfl, hb⟩; refine ⟨_, rfl, ?_⟩; have n0_ := am_ (blk_below (bu BK605.out) hb); have n1_ := am_ (below_step z125_3 hb); clear BK605 HB; have BK605 := n0_; have HB := n1_; clear n0_ n1_; (try clear hb); (try clear hb2); (try clear hk); (try clear hi); have hcz42_0 : w41.cell? ⟨gb605, 0, none⟩ = some (.int .i64 a0_0) := (blk_cell BK605.out 0).trans rfl; have hcz42_1 : w41.cell? ⟨gb605, 1, none⟩ = some (.int .i64 a0_1) := (blk_cell BK605.out 1).trans rfl; have hcz42_2 : w41.cell? ⟨gb605, 2, none⟩ = some (.int .i64 a0_2) := (blk_cell BK605.out 2).trans rfl; have hfz42_0 := blk_frozen BK605.out 0; have hfz42_1 := blk_frozen BK605.out 1; have hfz42_2 := blk_frozen BK605.out 2) | (go_at_call 88; (with_reducible refine (spec_l1Writes.calls a0_0 a0_1 a0_2 true _ A31.out).mono ?_); rintro e w43 ⟨rfl, hb⟩; have n0_ := am_ (blk_below (bu BK605.out) hb); have n1_ := am_ (below_step z125_3 hb); clear BK605 HB; have BK605 := n0_; have HB := n1_; clear n0_ n1_; (try clear hb); (try clear hb2); (try clear hk); (try clear hi); have hcz44_0 : w43.cell? ⟨gb605, 0, none⟩ = some (.int .i64 a0_0) := (blk_cell BK605.out 0).trans rfl; have hcz44_1 : w43.cell? ⟨gb605, 1, none⟩ = some (.int .i64 a0_1) := (blk_cell BK605.out 1).trans rfl; have hcz44_2 : w43.cell? ⟨gb605, 2, none⟩ = some (.int .i64 a0_2) := (blk_cell BK605.out 2).trans rfl; have hfz44_0 := blk_frozen BK605.out 0; have hfz44_1 := blk_frozen BK605.out 1; have hfz44_2 := blk_frozen BK605.out 2) | ((with_reducible refine gate_callee (f := 72) rfl ?_); refine goesL_ (some 21) rfl rfl Try.func72 (by kernel_rfl) rfl #[.int .i64 a0_0, .int .i64 1, .int .i64 9] rfl (by (try simp only [List.map_toArray, List.map_cons, List.map_nil]); first | done | rfl | (simp only [List.length_drop, List.length_take]; rfl)) ?_; (with_reducible refine (spec_l6In.calls a0_0 1 9 true _ A32.out).mono ?_); rintro e w' ⟨rfl, ⟨nd, rfl⟩⟩; refine ⟨_, rfl, ?_⟩) | (go_at_call 72; (with_reducible refine (spec_l6In.calls a0_1 0 2 true _ A35.out).mono ?_); rintro e w' ⟨rfl, ⟨nd, rfl⟩⟩) | (go_at_call 72; (with_reducible refine (spec_l6In.calls a0_2 1 3 true _ A38.out).mono ?_); rintro e w' ⟨rfl, ⟨nd, rfl⟩⟩))
         go_ret
         exact ⟨z125_1, z125_3⟩
        ·replace c39 := Bool.eq_false_iff.mpr c39
         subst c39
         have H1 : (some false) = some r := by rw [if_neg (show ¬ (false = true) by decide)] at H; exact H
         clear H
         have H := H1
         clear H1
         obtain rfl := Option.some.inj H
         have hcz45_0 : wc.cell? ⟨gb605, 0, none⟩ = some (.int .i64 a0_0) := (blk_cell BK605.out 0).trans rfl
         have hcz45_1 : wc.cell? ⟨gb605, 1, none⟩ = some (.int .i64 a0_1) := (blk_cell BK605.out 1).trans rfl
         have hcz45_2 : wc.cell? ⟨gb605, 2, none⟩ = some (.int .i64 a0_2) := (blk_cell BK605.out 2).trans rfl
         have hfz45_0 := blk_frozen BK605.out 0
         have hfz45_1 := blk_frozen BK605.out 1
         have hfz45_2 := blk_frozen BK605.out 2
         go_wp2_with (first | ((with_reducible refine gate_callee (f := 87) rfl ?_); refine goesL_ (some 14) rfl rfl Try.func87 (by kernel_rfl) rfl #[.agg #[.int .i64 a0_0, .int .i64 a0_1, .int .i64 a0_2]] rfl (by (try simp only [List.map_toArray, List.map_cons, List.map_nil]); first | done | rfl | (simp only [List.length_drop, List.length_take]; rfl)) ?_; (with_reducible refine (spec_l1Reads.calls a0_0 a0_1 a0_2 false _ A7.out).mono ?_); rintro e w46 ⟨rfl, hb⟩; refine ⟨_, rfl, ?_⟩; have n0_ := am_ (blk_below (bu BK605.out) hb); have n1_ := am_ (below_step z125_3 hb); clear BK605 HB; have BK605 := n0_; have HB := n1_; clear n0_ n1_; (try clear hb); (try clear hb2); (try clear hk); (try clear hi); have hcz47_0 : w46.cell? ⟨gb605, 0, none⟩ = some (.int .i64 a0_0) := (blk_cell BK605.out 0).trans rfl; have hcz47_1 : w46.cell? ⟨gb605, 1, none⟩ = some (.int .i64 a0_1) := (blk_cell BK605.out 1).trans rfl; have hcz47_2 : w46.cell? ⟨gb605, 2, none⟩ = some (.int .i64 a0_2) := (blk_cell BK605.out 2).trans rfl; have hfz47_0 := blk_frozen BK605.out 0; have hfz47_1 := blk_frozen BK605.out 1; have hfz47_2 := blk_frozen BK605.out 2) | (go_at_call 88; (with_reducible refine (spec_l1Writes.calls a0_0 a0_1 a0_2 true _ A31.out).mono ?_); rintro e w48 ⟨rfl, hb⟩; have n0_ := am_ (blk_below (bu BK605.out) hb); have n1_ := am_ (below_step z125_3 hb); clear BK605 HB; have BK605 := n0_; have HB := n1_; clear n0_ n1_; (try clear hb); (try clear hb2); (try clear hk); (try clear hi); have hcz49_0 : w48.cell? ⟨gb605, 0, none⟩ = some (.int .i64 a0_0) := (blk_cell BK605.out 0).trans rfl; have hcz49_1 : w48.cell? ⟨gb605, 1, none⟩ = some (.int .i64 a0_1) := (blk_cell BK605.out 1).trans rfl; have hcz49_2 : w48.cell? ⟨gb605, 2, none⟩ = some (.int .i64 a0_2) := (blk_cell BK605.out 2).trans rfl; have hfz49_0 := blk_frozen BK605.out 0; have hfz49_1 := blk_frozen BK605.out 1; have hfz49_2 := blk_frozen BK605.out 2) | ((with_reducible refine gate_callee (f := 72) rfl ?_); refine goesL_ (some 21) rfl rfl Try.func72 (by kernel_rfl) rfl #[.int .i64 a0_0, .int .i64 1, .int .i64 9] rfl (by (try simp only [List.map_toArray, List.map_cons, List.map_nil]); first | done | rfl | (simp only [List.length_drop, List.length_take]; rfl)) ?_; (with_reducible refine (spec_l6In.calls a0_0 1 9 true _ A32.out).mono ?_); rintro e w' ⟨rfl, ⟨nd, rfl⟩⟩; refine ⟨_, rfl, ?_⟩) | (go_at_call 72; (with_reducible refine (spec_l6In.calls a0_1 0 2 true _ A35.out).mono ?_); rintro e w' ⟨rfl, ⟨nd, rfl⟩⟩) | (go_at_call 72; (with_reducible refine (spec_l6In.calls a0_2 1 3 false _ A38.out).mono ?_); rintro e w' ⟨rfl, ⟨nd, rfl⟩⟩))
         go_ret
         exact ⟨z125_1, z125_3⟩
       ·replace c37 := Bool.eq_false_iff.mpr c37
        subst c37
        have H1 : (some (a0_2 == 0)) = some r := by rw [if_neg (show ¬ (false = true) by decide)] at H; exact H
        clear H
        have H := H1
        clear H1
        obtain rfl := Option.some.inj H
        have hcz50_0 : wc.cell? ⟨gb605, 0, none⟩ = some (.int .i64 a0_0) := (blk_cell BK605.out 0).trans rfl
        have hcz50_1 : wc.cell? ⟨gb605, 1, none⟩ = some (.int .i64 a0_1) := (blk_cell BK605.out 1).trans rfl
        have hcz50_2 : wc.cell? ⟨gb605, 2, none⟩ = some (.int .i64 a0_2) := (blk_cell BK605.out 2).trans rfl
        have hfz50_0 := blk_frozen BK605.out 0
        have hfz50_1 := blk_frozen BK605.out 1
        have hfz50_2 := blk_frozen BK605.out 2
        go_wp2_with (first | ((with_reducible refine gate_callee (f := 87) rfl ?_); refine goesL_ (some 14) rfl rfl Try.func87 (by kernel_rfl) rfl #[.agg #[.int .i64 a0_0, .int .i64 a0_1, .int .i64 a0_2]] rfl (by (try simp only [List.map_toArray, List.map_cons, List.map_nil]); first | done | rfl | (simp only [List.length_drop, List.length_take]; rfl)) ?_; (with_reducible refine (spec_l1Reads.calls a0_0 a0_1 a0_2 false _ A7.out).mono ?_); rintro e w51 ⟨rfl, hb⟩; refine ⟨_, rfl, ?_⟩; have n0_ := am_ (blk_below (bu BK605.out) hb); have n1_ := am_ (below_step z125_3 hb); clear BK605 HB; have BK605 := n0_; have HB := n1_; clear n0_ n1_; (try clear hb); (try clear hb2); (try clear hk); (try clear hi); have hcz52_0 : w51.cell? ⟨gb605, 0, none⟩ = some (.int .i64 a0_0) := (blk_cell BK605.out 0).trans rfl; have hcz52_1 : w51.cell? ⟨gb605, 1, none⟩ = some (.int .i64 a0_1) := (blk_cell BK605.out 1).trans rfl; have hcz52_2 : w51.cell? ⟨gb605, 2, none⟩ = some (.int .i64 a0_2) := (blk_cell BK605.out 2).trans rfl; have hfz52_0 := blk_frozen BK605.out 0; have hfz52_1 := blk_frozen BK605.out 1; have hfz52_2 := blk_frozen BK605.out 2) | (go_at_call 88; (with_reducible refine (spec_l1Writes.calls a0_0 a0_1 a0_2 true _ A31.out).mono ?_); rintro e w53 ⟨rfl, hb⟩; have n0_ := am_ (blk_below (bu BK605.out) hb); have n1_ := am_ (below_step z125_3 hb); clear BK605 HB; have BK605 := n0_; have HB := n1_; clear n0_ n1_; (try clear hb); (try clear hb2); (try clear hk); (try clear hi); have hcz54_0 : w53.cell? ⟨gb605, 0, none⟩ = some (.int .i64 a0_0) := (blk_cell BK605.out 0).trans rfl; have hcz54_1 : w53.cell? ⟨gb605, 1, none⟩ = some (.int .i64 a0_1) := (blk_cell BK605.out 1).trans rfl; have hcz54_2 : w53.cell? ⟨gb605, 2, none⟩ = some (.int .i64 a0_2) := (blk_cell BK605.out 2).trans rfl; have hfz54_0 := blk_frozen BK605.out 0; have hfz54_1 := blk_frozen BK605.out 1; have hfz54_2 := blk_frozen BK605.out 2) | ((with_reducible refine gate_callee (f := 72) rfl ?_); refine goesL_ (some 21) rfl rfl Try.func72 (by kernel_rfl) rfl #[.int .i64 a0_0, .int .i64 1, .int .i64 9] rfl (by (try simp only [List.map_toArray, List.map_cons, List.map_nil]); first | done | rfl | (simp only [List.length_drop, List.length_take]; rfl)) ?_; (with_reducible refine (spec_l6In.calls a0_0 1 9 true _ A32.out).mono ?_); rintro e w' ⟨rfl, ⟨nd, rfl⟩⟩; refine ⟨_, rfl, ?_⟩) | (go_at_call 72; (with_reducible refine (spec_l6In.calls a0_1 0 2 true _ A35.out).mono ?_); rintro e w' ⟨rfl, ⟨nd, rfl⟩⟩))
        go_ret
        exact ⟨z125_1, z125_3⟩
      ·replace c36 := Bool.eq_false_iff.mpr c36
       subst c36
       have H1 : (some false) = some r := by rw [if_neg (show ¬ (false = true) by decide)] at H; exact H
       clear H
       have H := H1
       clear H1
       obtain rfl := Option.some.inj H
       have hcz55_0 : wc.cell? ⟨gb605, 0, none⟩ = some (.int .i64 a0_0) := (blk_cell BK605.out 0).trans rfl
       have hcz55_1 : wc.cell? ⟨gb605, 1, none⟩ = some (.int .i64 a0_1) := (blk_cell BK605.out 1).trans rfl
       have hcz55_2 : wc.cell? ⟨gb605, 2, none⟩ = some (.int .i64 a0_2) := (blk_cell BK605.out 2).trans rfl
       have hfz55_0 := blk_frozen BK605.out 0
       have hfz55_1 := blk_frozen BK605.out 1
       have hfz55_2 := blk_frozen BK605.out 2
       go_wp2_with (first | ((with_reducible refine gate_callee (f := 87) rfl ?_); refine goesL_ (some 14) rfl rfl Try.func87 (by kernel_rfl) rfl #[.agg #[.int .i64 a0_0, .int .i64 a0_1, .int .i64 a0_2]] rfl (by (try simp only [List.map_toArray, List.map_cons, List.map_nil]); first | done | rfl | (simp only [List.length_drop, List.length_take]; rfl)) ?_; (with_reducible refine (spec_l1Reads.calls a0_0 a0_1 a0_2 false _ A7.out).mono ?_); rintro e w56 ⟨rfl, hb⟩; refine ⟨_, rfl, ?_⟩; have n0_ := am_ (blk_below (bu BK605.out) hb); have n1_ := am_ (below_step z125_3 hb); clear BK605 HB; have BK605 := n0_; have HB := n1_; clear n0_ n1_; (try clear hb); (try clear hb2); (try clear hk); (try clear hi); have hcz57_0 : w56.cell? ⟨gb605, 0, none⟩ = some (.int .i64 a0_0) := (blk_cell BK605.out 0).trans rfl; have hcz57_1 : w56.cell? ⟨gb605, 1, none⟩ = some (.int .i64 a0_1) := (blk_cell BK605.out 1).trans rfl; have hcz57_2 : w56.cell? ⟨gb605, 2, none⟩ = some (.int .i64 a0_2) := (blk_cell BK605.out 2).trans rfl; have hfz57_0 := blk_frozen BK605.out 0; have hfz57_1 := blk_frozen BK605.out 1; have hfz57_2 := blk_frozen BK605.out 2) | (go_at_call 88; (with_reducible refine (spec_l1Writes.calls a0_0 a0_1 a0_2 true _ A31.out).mono ?_); rintro e w58 ⟨rfl, hb⟩; have n0_ := am_ (blk_below (bu BK605.out) hb); have n1_ := am_ (below_step z125_3 hb); clear BK605 HB; have BK605 := n0_; have HB := n1_; clear n0_ n1_; (try clear hb); (try clear hb2); (try clear hk); (try clear hi); have hcz59_0 : w58.cell? ⟨gb605, 0, none⟩ = some (.int .i64 a0_0) := (blk_cell BK605.out 0).trans rfl; have hcz59_1 : w58.cell? ⟨gb605, 1, none⟩ = some (.int .i64 a0_1) := (blk_cell BK605.out 1).trans rfl; have hcz59_2 : w58.cell? ⟨gb605, 2, none⟩ = some (.int .i64 a0_2) := (blk_cell BK605.out 2).trans rfl; have hfz59_0 := blk_frozen BK605.out 0; have hfz59_1 := blk_frozen BK605.out 1; have hfz59_2 := blk_frozen BK605.out 2) | ((with_reducible refine gate_callee (f := 72) rfl ?_); refine goesL_ (some 21) rfl rfl Try.func72 (by kernel_rfl) rfl #[.int .i64 a0_0, .int .i64 1, .int .i64 9] rfl (by (try simp only [List.map_toArray, List.map_cons, List.map_nil]); first | done | rfl | (simp only [List.length_drop, List.length_take]; rfl)) ?_; (with_reducible refine (spec_l6In.calls a0_0 1 9 true _ A32.out).mono ?_); rintro e w' ⟨rfl, ⟨nd, rfl⟩⟩; refine ⟨_, rfl, ?_⟩) | (go_at_call 72; (with_reducible refine (spec_l6In.calls a0_1 0 2 false _ A35.out).mono ?_); rintro e w' ⟨rfl, ⟨nd, rfl⟩⟩))
       go_ret
       exact ⟨z125_1, z125_3⟩
     ·replace c34 := Bool.eq_false_iff.mpr c34
      subst c34
      have H1 : (if a0_1 = 0 then (if x3_1 = true then ((spec_l6In.f a0_2 1 3).bind fun t614 => (if t614 = true then (some true) else (some false))) else (some (a0_2 == 0))) else (some false)) = some r := by rw [if_neg (show ¬ (false = true) by decide)] at H; exact H
      clear H
      have H := H1
      clear H1
      by_cases c60 : a0_1 = 0
      ·rw [if_pos c60] at H
       have c60b0 : (a0_1 == 0) = true := beq_iff_eq.mpr c60
       have c60b1 : (a0_1 != 0) = false := bne_eq_false_iff_eq.mpr c60
       clear c60
       by_cases c61 : x3_1 = true
       ·subst c61
        have H1 : ((spec_l6In.f a0_2 1 3).bind fun t614 => (if t614 = true then (some true) else (some false))) = some r := by rw [if_pos rfl] at H; exact H
        clear H
        have H := H1
        clear H1
        replace H := Option.bind_eq_some_iff.mp H
        obtain ⟨t614, A620, H⟩ := H
        replace H : (if t614 = true then (some true) else (some false)) = some r := H
        have A62 := am_ A620
        clear A620
        by_cases c63 : t614 = true
        ·subst c63
         have H1 : (some true) = some r := by rw [if_pos rfl] at H; exact H
         clear H
         have H := H1
         clear H1
         obtain rfl := Option.some.inj H
         have hcz64_0 : wc.cell? ⟨gb605, 0, none⟩ = some (.int .i64 a0_0) := (blk_cell BK605.out 0).trans rfl
         have hcz64_1 : wc.cell? ⟨gb605, 1, none⟩ = some (.int .i64 a0_1) := (blk_cell BK605.out 1).trans rfl
         have hcz64_2 : wc.cell? ⟨gb605, 2, none⟩ = some (.int .i64 a0_2) := (blk_cell BK605.out 2).trans rfl
         have hfz64_0 := blk_frozen BK605.out 0
         have hfz64_1 := blk_frozen BK605.out 1
         have hfz64_2 := blk_frozen BK605.out 2
         go_wp2_with (first | ((with_reducible refine gate_callee (f := 87) rfl ?_); refine goesL_ (some 14) rfl rfl Try.func87 (by kernel_rfl) rfl #[.agg #[.int .i64 a0_0, .int .i64 a0_1, .int .i64 a0_2]] rfl (by (try simp only [List.map_toArray, List.map_cons, List.map_nil]); first | done | rfl | (simp only [List.length_drop, List.length_take]; rfl)) ?_; (with_reducible refine (spec_l1Reads.calls a0_0 a0_1 a0_2 false _ A7.out).mono ?_); rintro e w65 ⟨rfl, hb⟩; refine ⟨_, rfl, ?_⟩; have n0_ := am_ (blk_below (bu BK605.out) hb); have n1_ := am_ (below_step z125_3 hb); clear BK605 HB; have BK605 := n0_; have HB := n1_; clear n0_ n1_; (try clear hb); (try clear hb2); (try clear hk); (try clear hi); have hcz66_0 : w65.cell? ⟨gb605, 0, none⟩ = some (.int .i64 a0_0) := (blk_cell BK605.out 0).trans rfl; have hcz66_1 : w65.cell? ⟨gb605, 1, none⟩ = some (.int .i64 a0_1) := (blk_cell BK605.out 1).trans rfl; have hcz66_2 : w65.cell? ⟨gb605, 2, none⟩ = some (.int .i64 a0_2) := (blk_cell BK605.out 2).trans rfl; have hfz66_0 := blk_frozen BK605.out 0; have hfz66_1 := blk_frozen BK605.out 1; have hfz66_2 := blk_frozen BK605.out 2) | (go_at_call 88; (with_reducible refine (spec_l1Writes.calls a0_0 a0_1 a0_2 false _ A31.out).mono ?_); rintro e w67 ⟨rfl, hb⟩; have n0_ := am_ (blk_below (bu BK605.out) hb); have n1_ := am_ (below_step z125_3 hb); clear BK605 HB; have BK605 := n0_; have HB := n1_; clear n0_ n1_; (try clear hb); (try clear hb2); (try clear hk); (try clear hi); have hcz68_0 : w67.cell? ⟨gb605, 0, none⟩ = some (.int .i64 a0_0) := (blk_cell BK605.out 0).trans rfl; have hcz68_1 : w67.cell? ⟨gb605, 1, none⟩ = some (.int .i64 a0_1) := (blk_cell BK605.out 1).trans rfl; have hcz68_2 : w67.cell? ⟨gb605, 2, none⟩ = some (.int .i64 a0_2) := (blk_cell BK605.out 2).trans rfl; have hfz68_0 := blk_frozen BK605.out 0; have hfz68_1 := blk_frozen BK605.out 1; have hfz68_2 := blk_frozen BK605.out 2) | ((with_reducible refine gate_callee (f := 72) rfl ?_); refine goesL_ (some 21) rfl rfl Try.func72 (by kernel_rfl) rfl #[.int .i64 a0_0, .int .i64 1, .int .i64 9] rfl (by (try simp only [List.map_toArray, List.map_cons, List.map_nil]); first | done | rfl | (simp only [List.length_drop, List.length_take]; rfl)) ?_; (with_reducible refine (spec_l6In.calls a0_0 1 9 true _ A32.out).mono ?_); rintro e w' ⟨rfl, ⟨nd, rfl⟩⟩; refine ⟨_, rfl, ?_⟩) | (go_at_call 72; (with_reducible refine (spec_l6In.calls a0_2 1 3 true _ A62.out).mono ?_); rintro e w' ⟨rfl, ⟨nd, rfl⟩⟩))
         go_ret
         exact ⟨z125_1, z125_3⟩
        ·replace c63 := Bool.eq_false_iff.mpr c63
         subst c63
         have H1 : (some false) = some r := by rw [if_neg (show ¬ (false = true) by decide)] at H; exact H
         clear H
         have H := H1
         clear H1
         obtain rfl := Option.some.inj H
         have hcz69_0 : wc.cell? ⟨gb605, 0, none⟩ = some (.int .i64 a0_0) := (blk_cell BK605.out 0).trans rfl
         have hcz69_1 : wc.cell? ⟨gb605, 1, none⟩ = some (.int .i64 a0_1) := (blk_cell BK605.out 1).trans rfl
         have hcz69_2 : wc.cell? ⟨gb605, 2, none⟩ = some (.int .i64 a0_2) := (blk_cell BK605.out 2).trans rfl
         have hfz69_0 := blk_frozen BK605.out 0
         have hfz69_1 := blk_frozen BK605.out 1
         have hfz69_2 := blk_frozen BK605.out 2
         go_wp2_with (first | ((with_reducible refine gate_callee (f := 87) rfl ?_); refine goesL_ (some 14) rfl rfl Try.func87 (by kernel_rfl) rfl #[.agg #[.int .i64 a0_0, .int .i64 a0_1, .int .i64 a0_2]] rfl (by (try simp only [List.map_toArray, List.map_cons, List.map_nil]); first | done | rfl | (simp only [List.length_drop, List.length_take]; rfl)) ?_; (with_reducible refine (spec_l1Reads.calls a0_0 a0_1 a0_2 false _ A7.out).mono ?_); rintro e w70 ⟨rfl, hb⟩; refine ⟨_, rfl, ?_⟩; have n0_ := am_ (blk_below (bu BK605.out) hb); have n1_ := am_ (below_step z125_3 hb); clear BK605 HB; have BK605 := n0_; have HB := n1_; clear n0_ n1_; (try clear hb); (try clear hb2); (try clear hk); (try clear hi); have hcz71_0 : w70.cell? ⟨gb605, 0, none⟩ = some (.int .i64 a0_0) := (blk_cell BK605.out 0).trans rfl; have hcz71_1 : w70.cell? ⟨gb605, 1, none⟩ = some (.int .i64 a0_1) := (blk_cell BK605.out 1).trans rfl; have hcz71_2 : w70.cell? ⟨gb605, 2, none⟩ = some (.int .i64 a0_2) := (blk_cell BK605.out 2).trans rfl; have hfz71_0 := blk_frozen BK605.out 0; have hfz71_1 := blk_frozen BK605.out 1; have hfz71_2 := blk_frozen BK605.out 2) | (go_at_call 88; (with_reducible refine (spec_l1Writes.calls a0_0 a0_1 a0_2 false _ A31.out).mono ?_); rintro e w72 ⟨rfl, hb⟩; have n0_ := am_ (blk_below (bu BK605.out) hb); have n1_ := am_ (below_step z125_3 hb); clear BK605 HB; have BK605 := n0_; have HB := n1_; clear n0_ n1_; (try clear hb); (try clear hb2); (try clear hk); (try clear hi); have hcz73_0 : w72.cell? ⟨gb605, 0, none⟩ = some (.int .i64 a0_0) := (blk_cell BK605.out 0).trans rfl; have hcz73_1 : w72.cell? ⟨gb605, 1, none⟩ = some (.int .i64 a0_1) := (blk_cell BK605.out 1).trans rfl; have hcz73_2 : w72.cell? ⟨gb605, 2, none⟩ = some (.int .i64 a0_2) := (blk_cell BK605.out 2).trans rfl; have hfz73_0 := blk_frozen BK605.out 0; have hfz73_1 := blk_frozen BK605.out 1; have hfz73_2 := blk_frozen BK605.out 2) | ((with_reducible refine gate_callee (f := 72) rfl ?_); refine goesL_ (some 21) rfl rfl Try.func72 (by kernel_rfl) rfl #[.int .i64 a0_0, .int .i64 1, .int .i64 9] rfl (by (try simp only [List.map_toArray, List.map_cons, List.map_nil]); first | done | rfl | (simp only [List.length_drop, List.length_take]; rfl)) ?_; (with_reducible refine (spec_l6In.calls a0_0 1 9 true _ A32.out).mono ?_); rintro e w' ⟨rfl, ⟨nd, rfl⟩⟩; refine ⟨_, rfl, ?_⟩) | (go_at_call 72; (with_reducible refine (spec_l6In.calls a0_2 1 3 false _ A62.out).mono ?_); rintro e w' ⟨rfl, ⟨nd, rfl⟩⟩))
         go_ret
         exact ⟨z125_1, z125_3⟩
       ·replace c61 := Bool.eq_false_iff.mpr c61
        subst c61
        have H1 : (some (a0_2 == 0)) = some r := by rw [if_neg (show ¬ (false = true) by decide)] at H; exact H
        clear H
        have H := H1
        clear H1
        obtain rfl := Option.some.inj H
        have hcz74_0 : wc.cell? ⟨gb605, 0, none⟩ = some (.int .i64 a0_0) := (blk_cell BK605.out 0).trans rfl
        have hcz74_1 : wc.cell? ⟨gb605, 1, none⟩ = some (.int .i64 a0_1) := (blk_cell BK605.out 1).trans rfl
        have hcz74_2 : wc.cell? ⟨gb605, 2, none⟩ = some (.int .i64 a0_2) := (blk_cell BK605.out 2).trans rfl
        have hfz74_0 := blk_frozen BK605.out 0
        have hfz74_1 := blk_frozen BK605.out 1
        have hfz74_2 := blk_frozen BK605.out 2
        go_wp2_with (first | ((with_reducible refine gate_callee (f := 87) rfl ?_); refine goesL_ (some 14) rfl rfl Try.func87 (by kernel_rfl) rfl #[.agg #[.int .i64 a0_0, .int .i64 a0_1, .int .i64 a0_2]] rfl (by (try simp only [List.map_toArray, List.map_cons, List.map_nil]); first | done | rfl | (simp only [List.length_drop, List.length_take]; rfl)) ?_; (with_reducible refine (spec_l1Reads.calls a0_0 a0_1 a0_2 false _ A7.out).mono ?_); rintro e w75 ⟨rfl, hb⟩; refine ⟨_, rfl, ?_⟩; have n0_ := am_ (blk_below (bu BK605.out) hb); have n1_ := am_ (below_step z125_3 hb); clear BK605 HB; have BK605 := n0_; have HB := n1_; clear n0_ n1_; (try clear hb); (try clear hb2); (try clear hk); (try clear hi); have hcz76_0 : w75.cell? ⟨gb605, 0, none⟩ = some (.int .i64 a0_0) := (blk_cell BK605.out 0).trans rfl; have hcz76_1 : w75.cell? ⟨gb605, 1, none⟩ = some (.int .i64 a0_1) := (blk_cell BK605.out 1).trans rfl; have hcz76_2 : w75.cell? ⟨gb605, 2, none⟩ = some (.int .i64 a0_2) := (blk_cell BK605.out 2).trans rfl; have hfz76_0 := blk_frozen BK605.out 0; have hfz76_1 := blk_frozen BK605.out 1; have hfz76_2 := blk_frozen BK605.out 2) | (go_at_call 88; (with_reducible refine (spec_l1Writes.calls a0_0 a0_1 a0_2 false _ A31.out).mono ?_); rintro e w77 ⟨rfl, hb⟩; have n0_ := am_ (blk_below (bu BK605.out) hb); have n1_ := am_ (below_step z125_3 hb); clear BK605 HB; have BK605 := n0_; have HB := n1_; clear n0_ n1_; (try clear hb); (try clear hb2); (try clear hk); (try clear hi); have hcz78_0 : w77.cell? ⟨gb605, 0, none⟩ = some (.int .i64 a0_0) := (blk_cell BK605.out 0).trans rfl; have hcz78_1 : w77.cell? ⟨gb605, 1, none⟩ = some (.int .i64 a0_1) := (blk_cell BK605.out 1).trans rfl; have hcz78_2 : w77.cell? ⟨gb605, 2, none⟩ = some (.int .i64 a0_2) := (blk_cell BK605.out 2).trans rfl; have hfz78_0 := blk_frozen BK605.out 0; have hfz78_1 := blk_frozen BK605.out 1; have hfz78_2 := blk_frozen BK605.out 2) | ((with_reducible refine gate_callee (f := 72) rfl ?_); refine goesL_ (some 21) rfl rfl Try.func72 (by kernel_rfl) rfl #[.int .i64 a0_0, .int .i64 1, .int .i64 9] rfl (by (try simp only [List.map_toArray, List.map_cons, List.map_nil]); first | done | rfl | (simp only [List.length_drop, List.length_take]; rfl)) ?_; (with_reducible refine (spec_l6In.calls a0_0 1 9 true _ A32.out).mono ?_); rintro e w' ⟨rfl, ⟨nd, rfl⟩⟩; refine ⟨_, rfl, ?_⟩))
        go_ret
        exact ⟨z125_1, z125_3⟩
      ·rw [if_neg c60] at H
       have c60b0 : (a0_1 == 0) = false := beq_eq_false_iff_ne.mpr c60
       have c60b1 : (a0_1 != 0) = true := bne_iff_ne.mpr c60
       obtain rfl := Option.some.inj H
       have hcz79_0 : wc.cell? ⟨gb605, 0, none⟩ = some (.int .i64 a0_0) := (blk_cell BK605.out 0).trans rfl
       have hcz79_1 : wc.cell? ⟨gb605, 1, none⟩ = some (.int .i64 a0_1) := (blk_cell BK605.out 1).trans rfl
       have hcz79_2 : wc.cell? ⟨gb605, 2, none⟩ = some (.int .i64 a0_2) := (blk_cell BK605.out 2).trans rfl
       have hfz79_0 := blk_frozen BK605.out 0
       have hfz79_1 := blk_frozen BK605.out 1
       have hfz79_2 := blk_frozen BK605.out 2
       go_wp2_with (first | ((with_reducible refine gate_callee (f := 87) rfl ?_); refine goesL_ (some 14) rfl rfl Try.func87 (by kernel_rfl) rfl #[.agg #[.int .i64 a0_0, .int .i64 a0_1, .int .i64 a0_2]] rfl (by (try simp only [List.map_toArray, List.map_cons, List.map_nil]); first | done | rfl | (simp only [List.length_drop, List.length_take]; rfl)) ?_; (with_reducible refine (spec_l1Reads.calls a0_0 a0_1 a0_2 false _ A7.out).mono ?_); rintro e w80 ⟨rfl, hb⟩; refine ⟨_, rfl, ?_⟩; have n0_ := am_ (blk_below (bu BK605.out) hb); have n1_ := am_ (below_step z125_3 hb); clear BK605 HB; have BK605 := n0_; have HB := n1_; clear n0_ n1_; (try clear hb); (try clear hb2); (try clear hk); (try clear hi); have hcz81_0 : w80.cell? ⟨gb605, 0, none⟩ = some (.int .i64 a0_0) := (blk_cell BK605.out 0).trans rfl; have hcz81_1 : w80.cell? ⟨gb605, 1, none⟩ = some (.int .i64 a0_1) := (blk_cell BK605.out 1).trans rfl; have hcz81_2 : w80.cell? ⟨gb605, 2, none⟩ = some (.int .i64 a0_2) := (blk_cell BK605.out 2).trans rfl; have hfz81_0 := blk_frozen BK605.out 0; have hfz81_1 := blk_frozen BK605.out 1; have hfz81_2 := blk_frozen BK605.out 2) | (go_at_call 88; (with_reducible refine (spec_l1Writes.calls a0_0 a0_1 a0_2 false _ A31.out).mono ?_); rintro e w82 ⟨rfl, hb⟩; have n0_ := am_ (blk_below (bu BK605.out) hb); have n1_ := am_ (below_step z125_3 hb); clear BK605 HB; have BK605 := n0_; have HB := n1_; clear n0_ n1_; (try clear hb); (try clear hb2); (try clear hk); (try clear hi); have hcz83_0 : w82.cell? ⟨gb605, 0, none⟩ = some (.int .i64 a0_0) := (blk_cell BK605.out 0).trans rfl; have hcz83_1 : w82.cell? ⟨gb605, 1, none⟩ = some (.int .i64 a0_1) := (blk_cell BK605.out 1).trans rfl; have hcz83_2 : w82.cell? ⟨gb605, 2, none⟩ = some (.int .i64 a0_2) := (blk_cell BK605.out 2).trans rfl; have hfz83_0 := blk_frozen BK605.out 0; have hfz83_1 := blk_frozen BK605.out 1; have hfz83_2 := blk_frozen BK605.out 2) | ((with_reducible refine gate_callee (f := 72) rfl ?_); refine goesL_ (some 21) rfl rfl Try.func72 (by kernel_rfl) rfl #[.int .i64 a0_0, .int .i64 1, .int .i64 9] rfl (by (try simp only [List.map_toArray, List.map_cons, List.map_nil]); first | done | rfl | (simp only [List.length_drop, List.length_take]; rfl)) ?_; (with_reducible refine (spec_l6In.calls a0_0 1 9 true _ A32.out).mono ?_); rintro e w' ⟨rfl, ⟨nd, rfl⟩⟩; refine ⟨_, rfl, ?_⟩))
       go_ret
       exact ⟨z125_1, z125_3⟩
    ·replace c33 := Bool.eq_false_iff.mpr c33
     subst c33
     have H1 : (some false) = some r := by rw [if_neg (show ¬ (false = true) by decide)] at H; exact H
     clear H
     have H := H1
     clear H1
     obtain rfl := Option.some.inj H
     have hcz84_0 : wc.cell? ⟨gb605, 0, none⟩ = some (.int .i64 a0_0) := (blk_cell BK605.out 0).trans rfl
     have hcz84_1 : wc.cell? ⟨gb605, 1, none⟩ = some (.int .i64 a0_1) := (blk_cell BK605.out 1).trans rfl
     have hcz84_2 : wc.cell? ⟨gb605, 2, none⟩ = some (.int .i64 a0_2) := (blk_cell BK605.out 2).trans rfl
     have hfz84_0 := blk_frozen BK605.out 0
     have hfz84_1 := blk_frozen BK605.out 1
     have hfz84_2 := blk_frozen BK605.out 2
     go_wp2_with (first | ((with_reducible refine gate_callee (f := 87) rfl ?_); refine goesL_ (some 14) rfl rfl Try.func87 (by kernel_rfl) rfl #[.agg #[.int .i64 a0_0, .int .i64 a0_1, .int .i64 a0_2]] rfl (by (try simp only [List.map_toArray, List.map_cons, List.map_nil]); first | done | rfl | (simp only [List.length_drop, List.length_take]; rfl)) ?_; (with_reducible refine (spec_l1Reads.calls a0_0 a0_1 a0_2 false _ A7.out).mono ?_); rintro e w85 ⟨rfl, hb⟩; refine ⟨_, rfl, ?_⟩; have n0_ := am_ (blk_below (bu BK605.out) hb); have n1_ := am_ (below_step z125_3 hb); clear BK605 HB; have BK605 := n0_; have HB := n1_; clear n0_ n1_; (try clear hb); (try clear hb2); (try clear hk); (try clear hi); have hcz86_0 : w85.cell? ⟨gb605, 0, none⟩ = some (.int .i64 a0_0) := (blk_cell BK605.out 0).trans rfl; have hcz86_1 : w85.cell? ⟨gb605, 1, none⟩ = some (.int .i64 a0_1) := (blk_cell BK605.out 1).trans rfl; have hcz86_2 : w85.cell? ⟨gb605, 2, none⟩ = some (.int .i64 a0_2) := (blk_cell BK605.out 2).trans rfl; have hfz86_0 := blk_frozen BK605.out 0; have hfz86_1 := blk_frozen BK605.out 1; have hfz86_2 := blk_frozen BK605.out 2) | (go_at_call 88; (with_reducible refine (spec_l1Writes.calls a0_0 a0_1 a0_2 t610 _ A31.out).mono ?_); rintro e w87 ⟨rfl, hb⟩; have n0_ := am_ (blk_below (bu BK605.out) hb); have n1_ := am_ (below_step z125_3 hb); clear BK605 HB; have BK605 := n0_; have HB := n1_; clear n0_ n1_; (try clear hb); (try clear hb2); (try clear hk); (try clear hi); have hcz88_0 : w87.cell? ⟨gb605, 0, none⟩ = some (.int .i64 a0_0) := (blk_cell BK605.out 0).trans rfl; have hcz88_1 : w87.cell? ⟨gb605, 1, none⟩ = some (.int .i64 a0_1) := (blk_cell BK605.out 1).trans rfl; have hcz88_2 : w87.cell? ⟨gb605, 2, none⟩ = some (.int .i64 a0_2) := (blk_cell BK605.out 2).trans rfl; have hfz88_0 := blk_frozen BK605.out 0; have hfz88_1 := blk_frozen BK605.out 1; have hfz88_2 := blk_frozen BK605.out 2) | ((with_reducible refine gate_callee (f := 72) rfl ?_); refine goesL_ (some 21) rfl rfl Try.func72 (by kernel_rfl) rfl #[.int .i64 a0_0, .int .i64 1, .int .i64 9] rfl (by (try simp only [List.map_toArray, List.map_cons, List.map_nil]); first | done | rfl | (simp only [List.length_drop, List.length_take]; rfl)) ?_; (with_reducible refine (spec_l6In.calls a0_0 1 9 false _ A32.out).mono ?_); rintro e w' ⟨rfl, ⟨nd, rfl⟩⟩; refine ⟨_, rfl, ?_⟩))
     go_ret
     exact ⟨z125_1, z125_3⟩

end Go.Proofs.Ytefkbmhkhpekjaa.PB

-- Written by this session's wip/myprint.py (the kit's print.py, with hand-written chunks). Lean checks it.
import Derived.Test.YtefkbmhkhpekjaaPBx0
import Derived.Test.YtefkbmhkhpekjaaPBx72
import Derived.Test.YtefkbmhkhpekjaaPBx87
import Derived.Test.YtefkbmhkhpekjaaPBx88
namespace Go.Proofs.Ytefkbmhkhpekjaa.PB
open Go.RowKit Go.Proofs.YtefkbmhkhpekjaaW.PrintWords Go.Proofs.YtefkbmhkhpekjaaW.PrintLast Go.Proofs.YtefkbmhkhpekjaaW.PrintMore
attribute [local go_sem] max2_int min2_int max_two min_two max_three min_three max_four min_four   -- for this text's walks alone
open Go.Proofs.YtefkbmhkhpekjaaMine
set_option linter.unusedVariables false
set_option linter.unusedSimpArgs false

theorem z125_1 {p : Prop} (h : p := by first | rfl | (simp [errW_none, errW_some] <;> rfl) | (simp [*, errW_none, errW_some] <;> rfl)) : p := h
theorem z125_2 {p : Prop} (h : p := by repeat (first | (with_reducible first | exact HB.out | apply below_alloc | apply pw_below_drewN | apply below_drew1) | exact HB.out)) : p := h
theorem z125_3 {p : Prop} (h : p := by repeat (first | (with_reducible first | exact HB.out | apply below_alloc | apply pw_below_drewN | apply below_drew1 | refine below_set ?_ GE557.out) | exact HB.out)) : p := h
/-! ### spec_l1Do: function 125 -/
def spec_l1Do.j0 : Nat → Bool → Int → Int → Int → Option (Bool)
  | 0, _, _, _, _ => none
  | k + 1, x3, x02, x01, x00 => (spec_l1Reads.f x02 x01 x00).bind fun t558 => (if t558 = true then ((spec_l6In.f x02 1 9).bind fun t559 => (if t559 = true then ((spec_l6In.f x01 0 2).bind fun t560 => (if t560 = true then (if x3 = true then ((spec_l6In.f x00 1 3).bind fun t561 => (if t561 = true then (some true) else (some false))) else (some (x00 == 0))) else (some false))) else (some false))) else ((spec_l1Writes.f x02 x01 x00).bind fun t562 => ((spec_l6In.f x02 1 9).bind fun t563 => (if t563 = true then (if t562 = true then ((spec_l6In.f x01 0 2).bind fun t564 => (if t564 = true then (if x3 = true then ((spec_l6In.f x00 1 3).bind fun t565 => (if t565 = true then (some true) else (some false))) else (some (x00 == 0))) else (some false))) else (if x01 = 0 then (if x3 = true then ((spec_l6In.f x00 1 3).bind fun t566 => (if t566 = true then (some true) else (some false))) else (some (x00 == 0))) else (some false))) else (some false)))))
def spec_l1Do.f (k : Nat) (a0_0 : Int) (a0_1 : Int) (a0_2 : Int) : Option (Bool) := if a0_0 = 1 then (spec_l1Do.j0 k true a0_0 a0_1 a0_2) else (spec_l1Do.j0 k (a0_0 == 6) a0_0 a0_1 a0_2)
set_option maxHeartbeats 8000000 in
set_option maxRecDepth 100000 in
theorem spec_l1Do.calls (k : Nat) (a0_0 : Int) (a0_1 : Int) (a0_2 : Int) (r : Bool) (w : World) (h : spec_l1Do.f k a0_0 a0_1 a0_2 = some r) :
  Calls Try.prog 125 #[.agg #[.int .i64 a0_0, .int .i64 a0_1, .int .i64 a0_2]] w fun e w' => e = .returned (.bool r) ∧ Below w.heap.size w w' := by
 have hu85 := Try.underlying85
 have HB := am_ (Below.refl w.heap.size w)
 have H : (if a0_0 = 1 then (spec_l1Do.j0 k true a0_0 a0_1 a0_2) else (spec_l1Do.j0 k (a0_0 == 6) a0_0 a0_1 a0_2)) = some r := h
 clear h
 have HC2 := am_ H
 clear H
 go_enter Try.func125, Try.ntmps125
 go_upto_region 1 with (first | ((with_reducible refine gate_dst (N := 1) rfl ?_); refine box_event ?hg (N := 1) ?hd (cs := #[.int .i64 a0_0, .int .i64 a0_1, .int .i64 a0_2]) (t := 85) ?hr ?_; (case hd => rfl); (case hg => rfl); (case hr => first | (go_simp; done) | (go_simp; rfl)); intro gb557 hg w3 hbox hb; have n0_ := am_ (below_step z125_2 hb); have n1_ := am_ (hbox); have n2_ := am_ (by rw [hg]; exact (below_size z125_2) : w.heap.size ≤ gb557); have n3_ := am_ (by rw [hg]; exact (below_size z125_2) : w.heap.size ≤ gb557); clear HB; have HB := n0_; have BK557 := n1_; have GW557 := n2_; have GE557 := n3_; clear n0_ n1_ n2_ n3_; clear hb hbox hg))
 (try simp only [Act.put, List.setIfInBounds_toArray, List.set_cons_zero, List.set_cons_succ])
 go_cut [3] (fun v3 wc => ∃ (kq : Nat) (x3_1 : Bool), v3 = .bool x3_1 ∧ Aside0 (spec_l1Do.j0 kq x3_1 a0_0 a0_1 a0_2 = some r) ∧ Aside0 (kq ≤ k) ∧ Aside0 (wc.heap[gb557]? = some (.cells #[.int .i64 a0_0, .int .i64 a0_1, .int .i64 a0_2] 85 (0, 0))) ∧ Aside0 (Below w.heap.size w wc))
 case first =>
  have H := HC2.out
  clear HC2
  by_cases c4 : a0_0 = 1
  ·rw [if_pos c4] at H
   have c4b0 : (a0_0 == 1) = true := beq_iff_eq.mpr c4
   have c4b1 : (a0_0 != 1) = false := bne_eq_false_iff_eq.mpr c4
   clear c4
   (first | rw [c4b0] | (simp only [i64_w, i32_w]; rw [c4b0]) | skip)
   have H' := am_ H
   clear H
   have hcz5_0 := cf0 BK557.out
   have hcz5_1 := cf1 BK557.out
   have hcz5_2 := cf2 BK557.out
   have hfz5_0 := blk_frozen BK557.out 0
   have hfz5_1 := blk_frozen BK557.out 1
   have hfz5_2 := blk_frozen BK557.out 2
   go_wp2
   go_meet
   case rel => exact ⟨_, (true), (by first | rfl | (simp; done) | (simp [*]; done)), H', ⟨by first | omega | exact Nat.le_refl _⟩, ⟨bu BK557.out⟩, ⟨z125_3⟩⟩
  rw [if_neg c4] at H
  have c4b0 : (a0_0 == 1) = false := beq_eq_false_iff_ne.mpr c4
  have c4b1 : (a0_0 != 1) = true := bne_iff_ne.mpr c4
  (first | rw [c4b0] | (simp only [i64_w, i32_w]; rw [c4b0]) | skip)
  have H' := am_ H
  clear H
  have hcz6_0 := cf0 BK557.out
  have hcz6_1 := cf1 BK557.out
  have hcz6_2 := cf2 BK557.out
  have hfz6_0 := blk_frozen BK557.out 0
  have hfz6_1 := blk_frozen BK557.out 1
  have hfz6_2 := blk_frozen BK557.out 2
  go_wp2
  go_meet
  case rel => exact ⟨_, ((a0_0 == 6)), (by first | rfl | (simp; done) | (simp [*]; done)), H', ⟨by first | omega | exact Nat.le_refl _⟩, ⟨bu BK557.out⟩, ⟨z125_3⟩⟩
 case rest =>
  clear HC2
  obtain ⟨kq, x3_1, rfl, HA, HJ1, BK557, HB⟩ := hcut
  cases kq with
  | zero => exact absurd HA.out (by simp [spec_l1Do.j0])
  | succ kj1 =>
   have H := HA.out
   clear HA
   simp only [spec_l1Do.j0] at H
   replace H := Option.bind_eq_some_iff.mp H
   obtain ⟨t558, A70, H⟩ := H
   replace H : (if t558 = true then ((spec_l6In.f a0_0 1 9).bind fun t559 => (if t559 = true then ((spec_l6In.f a0_1 0 2).bind fun t560 => (if t560 = true then (if x3_1 = true then ((spec_l6In.f a0_2 1 3).bind fun t561 => (if t561 = true then (some true) else (some false))) else (some (a0_2 == 0))) else (some false))) else (some false))) else ((spec_l1Writes.f a0_0 a0_1 a0_2).bind fun t562 => ((spec_l6In.f a0_0 1 9).bind fun t563 => (if t563 = true then (if t562 = true then ((spec_l6In.f a0_1 0 2).bind fun t564 => (if t564 = true then (if x3_1 = true then ((spec_l6In.f a0_2 1 3).bind fun t565 => (if t565 = true then (some true) else (some false))) else (some (a0_2 == 0))) else (some false))) else (if a0_1 = 0 then (if x3_1 = true then ((spec_l6In.f a0_2 1 3).bind fun t566 => (if t566 = true then (some true) else (some false))) else (some (a0_2 == 0))) else (some false))) else (some false))))) = some r := H
   have A7 := am_ A70
   clear A70
   by_cases c8 : t558 = true
   ·subst c8
    have H1 : ((spec_l6In.f a0_0 1 9).bind fun t559 => (if t559 = true then ((spec_l6In.f a0_1 0 2).bind fun t560 => (if t560 = true then (if x3_1 = true then ((spec_l6In.f a0_2 1 3).bind fun t561 => (if t561 = true then (some true) else (some false))) else (some (a0_2 == 0))) else (some false))) else (some false))) = some r := by rw [if_pos rfl] at H; exact H
    clear H
    have H := H1
    clear H1
    replace H := Option.bind_eq_some_iff.mp H
    obtain ⟨t559, A90, H⟩ := H
    replace H : (if t559 = true then ((spec_l6In.f a0_1 0 2).bind fun t560 => (if t560 = true then (if x3_1 = true then ((spec_l6In.f a0_2 1 3).bind fun t561 => (if t561 = true then (some true) else (some false))) else (some (a0_2 == 0))) else (some false))) else (some false)) = some r := H
    have A9 := am_ A90
    clear A90
    by_cases c10 : t559 = true
    ·subst c10
     have H1 : ((spec_l6In.f a0_1 0 2).bind fun t560 => (if t560 = true then (if x3_1 = true then ((spec_l6In.f a0_2 1 3).bind fun t561 => (if t561 = true then (some true) else (some false))) else (some (a0_2 == 0))) else (some false))) = some r := by rw [if_pos rfl] at H; exact H
     clear H
     have H := H1
     clear H1
     replace H := Option.bind_eq_some_iff.mp H
     obtain ⟨t560, A110, H⟩ := H
     replace H : (if t560 = true then (if x3_1 = true then ((spec_l6In.f a0_2 1 3).bind fun t561 => (if t561 = true then (some true) else (some false))) else (some (a0_2 == 0))) else (some false)) = some r := H
     have A11 := am_ A110
     clear A110
     by_cases c12 : t560 = true
     ·subst c12
      have H1 : (if x3_1 = true then ((spec_l6In.f a0_2 1 3).bind fun t561 => (if t561 = true then (some true) else (some false))) else (some (a0_2 == 0))) = some r := by rw [if_pos rfl] at H; exact H
      clear H
      have H := H1
      clear H1
      by_cases c13 : x3_1 = true
      ·subst c13
       have H1 : ((spec_l6In.f a0_2 1 3).bind fun t561 => (if t561 = true then (some true) else (some false))) = some r := by rw [if_pos rfl] at H; exact H
       clear H
       have H := H1
       clear H1
       replace H := Option.bind_eq_some_iff.mp H
       obtain ⟨t561, A140, H⟩ := H
       replace H : (if t561 = true then (some true) else (some false)) = some r := H
       have A14 := am_ A140
       clear A140
       by_cases c15 : t561 = true
       ·subst c15
        have H1 : (some true) = some r := by rw [if_pos rfl] at H; exact H
        clear H
        have H := H1
        clear H1
        obtain rfl := Option.some.inj H
        have hcz16_0 := cf0 BK557.out
        have hcz16_1 := cf1 BK557.out
        have hcz16_2 := cf2 BK557.out
        have hfz16_0 := blk_frozen BK557.out 0
        have hfz16_1 := blk_frozen BK557.out 1
        have hfz16_2 := blk_frozen BK557.out 2
        go_wp2_with (first | ((with_reducible refine gate_callee (f := 87) rfl ?_); refine goesL_ (some 14) rfl rfl Try.func87 (by kernel_rfl) rfl #[.agg #[.int .i64 a0_0, .int .i64 a0_1, .int .i64 a0_2]] rfl (by (try simp only [List.map_toArray, List.map_cons, List.map_nil]); first | done | rfl | (simp only [List.length_drop, List.length_take]; rfl)) ?_; (with_reducible refine (spec_l1Reads.calls a0_0 a0_1 a0_2 true _ A7.out).mono ?_); rintro e w17 ⟨rfl, hb⟩; refine ⟨_, rfl, ?_⟩; replace BK557 := am_ (blk_below (bu BK557.out) hb); replace HB := am_ (below_step z125_3 hb); (try clear hb); (try clear hb2); (try clear hk); (try clear hi); have hcz18_0 := cf0 BK557.out; have hcz18_1 := cf1 BK557.out; have hcz18_2 := cf2 BK557.out; have hfz18_0 := blk_frozen BK557.out 0; have hfz18_1 := blk_frozen BK557.out 1; have hfz18_2 := blk_frozen BK557.out 2) | ((with_reducible refine gate_callee (f := 72) rfl ?_); refine goesL_ (some 21) rfl rfl Try.func72 (by kernel_rfl) rfl #[.int .i64 a0_0, .int .i64 1, .int .i64 9] rfl (by (try simp only [List.map_toArray, List.map_cons, List.map_nil]); first | done | rfl | (simp only [List.length_drop, List.length_take]; rfl)) ?_; (with_reducible refine (spec_l6In.calls a0_0 1 9 true _ A9.out).mono ?_); rintro e w' ⟨rfl, ⟨nd, rfl⟩⟩; refine ⟨_, rfl, ?_⟩) | (go_at_call 72; (with_reducible refine (spec_l6In.calls a0_1 0 2 true _ A11.out).mono ?_); rintro e w' ⟨rfl, ⟨nd, rfl⟩⟩) | (go_at_call 72; (with_reducible refine (spec_l6In.calls a0_2 1 3 true _ A14.out).mono ?_); rintro e w' ⟨rfl, ⟨nd, rfl⟩⟩))
        go_ret
        exact ⟨z125_1, z125_3⟩
       replace c15 := Bool.eq_false_iff.mpr c15
       subst c15
       have H1 : (some false) = some r := by rw [if_neg (show ¬ (false = true) by decide)] at H; exact H
       clear H
       have H := H1
       clear H1
       obtain rfl := Option.some.inj H
       have hcz19_0 := cf0 BK557.out
       have hcz19_1 := cf1 BK557.out
       have hcz19_2 := cf2 BK557.out
       have hfz19_0 := blk_frozen BK557.out 0
       have hfz19_1 := blk_frozen BK557.out 1
       have hfz19_2 := blk_frozen BK557.out 2
       go_wp2_with (first | ((with_reducible refine gate_callee (f := 87) rfl ?_); refine goesL_ (some 14) rfl rfl Try.func87 (by kernel_rfl) rfl #[.agg #[.int .i64 a0_0, .int .i64 a0_1, .int .i64 a0_2]] rfl (by (try simp only [List.map_toArray, List.map_cons, List.map_nil]); first | done | rfl | (simp only [List.length_drop, List.length_take]; rfl)) ?_; (with_reducible refine (spec_l1Reads.calls a0_0 a0_1 a0_2 true _ A7.out).mono ?_); rintro e w20 ⟨rfl, hb⟩; refine ⟨_, rfl, ?_⟩; replace BK557 := am_ (blk_below (bu BK557.out) hb); replace HB := am_ (below_step z125_3 hb); (try clear hb); (try clear hb2); (try clear hk); (try clear hi); have hcz21_0 := cf0 BK557.out; have hcz21_1 := cf1 BK557.out; have hcz21_2 := cf2 BK557.out; have hfz21_0 := blk_frozen BK557.out 0; have hfz21_1 := blk_frozen BK557.out 1; have hfz21_2 := blk_frozen BK557.out 2) | ((with_reducible refine gate_callee (f := 72) rfl ?_); refine goesL_ (some 21) rfl rfl Try.func72 (by kernel_rfl) rfl #[.int .i64 a0_0, .int .i64 1, .int .i64 9] rfl (by (try simp only [List.map_toArray, List.map_cons, List.map_nil]); first | done | rfl | (simp only [List.length_drop, List.length_take]; rfl)) ?_; (with_reducible refine (spec_l6In.calls a0_0 1 9 true _ A9.out).mono ?_); rintro e w' ⟨rfl, ⟨nd, rfl⟩⟩; refine ⟨_, rfl, ?_⟩) | (go_at_call 72; (with_reducible refine (spec_l6In.calls a0_1 0 2 true _ A11.out).mono ?_); rintro e w' ⟨rfl, ⟨nd, rfl⟩⟩) | (go_at_call 72; (with_reducible refine (spec_l6In.calls a0_2 1 3 false _ A14.out).mono ?_); rintro e w' ⟨rfl, ⟨nd, rfl⟩⟩))
       go_ret
       exact ⟨z125_1, z125_3⟩
      replace c13 := Bool.eq_false_iff.mpr c13
      subst c13
      have H1 : (some (a0_2 == 0)) = some r := by rw [if_neg (show ¬ (false = true) by decide)] at H; exact H
      clear H
      have H := H1
      clear H1
      obtain rfl := Option.some.inj H
      have hcz22_0 := cf0 BK557.out
      have hcz22_1 := cf1 BK557.out
      have hcz22_2 := cf2 BK557.out
      have hfz22_0 := blk_frozen BK557.out 0
      have hfz22_1 := blk_frozen BK557.out 1
      have hfz22_2 := blk_frozen BK557.out 2
      go_wp2_with (first | ((with_reducible refine gate_callee (f := 87) rfl ?_); refine goesL_ (some 14) rfl rfl Try.func87 (by kernel_rfl) rfl #[.agg #[.int .i64 a0_0, .int .i64 a0_1, .int .i64 a0_2]] rfl (by (try simp only [List.map_toArray, List.map_cons, List.map_nil]); first | done | rfl | (simp only [List.length_drop, List.length_take]; rfl)) ?_; (with_reducible refine (spec_l1Reads.calls a0_0 a0_1 a0_2 true _ A7.out).mono ?_); rintro e w23 ⟨rfl, hb⟩; refine ⟨_, rfl, ?_⟩; replace BK557 := am_ (blk_below (bu BK557.out) hb); replace HB := am_ (below_step z125_3 hb); (try clear hb); (try clear hb2); (try clear hk); (try clear hi); have hcz24_0 := cf0 BK557.out; have hcz24_1 := cf1 BK557.out; have hcz24_2 := cf2 BK557.out; have hfz24_0 := blk_frozen BK557.out 0; have hfz24_1 := blk_frozen BK557.out 1; have hfz24_2 := blk_frozen BK557.out 2) | ((with_reducible refine gate_callee (f := 72) rfl ?_); refine goesL_ (some 21) rfl rfl Try.func72 (by kernel_rfl) rfl #[.int .i64 a0_0, .int .i64 1, .int .i64 9] rfl (by (try simp only [List.map_toArray, List.map_cons, List.map_nil]); first | done | rfl | (simp only [List.length_drop, List.length_take]; rfl)) ?_; (with_reducible refine (spec_l6In.calls a0_0 1 9 true _ A9.out).mono ?_); rintro e w' ⟨rfl, ⟨nd, rfl⟩⟩; refine ⟨_, rfl, ?_⟩) | (go_at_call 72; (with_reducible refine (spec_l6In.calls a0_1 0 2 true _ A11.out).mono ?_); rintro e w' ⟨rfl, ⟨nd, rfl⟩⟩))
      go_ret
      exact ⟨z125_1, z125_3⟩
     replace c12 := Bool.eq_false_iff.mpr c12
     subst c12
     have H1 : (some false) = some r := by rw [if_neg (show ¬ (false = true) by decide)] at H; exact H
     clear H
     have H := H1
     clear H1
     obtain rfl := Option.some.inj H
     have hcz25_0 := cf0 BK557.out
     have hcz25_1 := cf1 BK557.out
     have hcz25_2 := cf2 BK557.out
     have hfz25_0 := blk_frozen BK557.out 0
     have hfz25_1 := blk_frozen BK557.out 1
     have hfz25_2 := blk_frozen BK557.out 2
     go_wp2_with (first | ((with_reducible refine gate_callee (f := 87) rfl ?_); refine goesL_ (some 14) rfl rfl Try.func87 (by kernel_rfl) rfl #[.agg #[.int .i64 a0_0, .int .i64 a0_1, .int .i64 a0_2]] rfl (by (try simp only [List.map_toArray, List.map_cons, List.map_nil]); first | done | rfl | (simp only [List.length_drop, List.length_take]; rfl)) ?_; (with_reducible refine (spec_l1Reads.calls a0_0 a0_1 a0_2 true _ A7.out).mono ?_); rintro e w26 ⟨rfl, hb⟩; refine ⟨_, rfl, ?_⟩; replace BK557 := am_ (blk_below (bu BK557.out) hb); replace HB := am_ (below_step z125_3 hb); (try clear hb); (try clear hb2); (try clear hk); (try clear hi); have hcz27_0 := cf0 BK557.out; have hcz27_1 := cf1 BK557.out; have hcz27_2 := cf2 BK557.out; have hfz27_0 := blk_frozen BK557.out 0; have hfz27_1 := blk_frozen BK557.out 1; have hfz27_2 := blk_frozen BK557.out 2) | ((with_reducible refine gate_callee (f := 72) rfl ?_); refine goesL_ (some 21) rfl rfl Try.func72 (by kernel_rfl) rfl #[.int .i64 a0_0, .int .i64 1, .int .i64 9] rfl (by (try simp only [List.map_toArray, List.map_cons, List.map_nil]); first | done | rfl | (simp only [List.length_drop, List.length_take]; rfl)) ?_; (with_reducible refine (spec_l6In.calls a0_0 1 9 true _ A9.out).mono ?_); rintro e w' ⟨rfl, ⟨nd, rfl⟩⟩; refine ⟨_, rfl, ?_⟩) | (go_at_call 72; (with_reducible refine (spec_l6In.calls a0_1 0 2 false _ A11.out).mono ?_); rintro e w' ⟨rfl, ⟨nd, rfl⟩⟩))
     go_ret
     exact ⟨z125_1, z125_3⟩
    replace c10 := Bool.eq_false_iff.mpr c10
    subst c10
    have H1 : (some false) = some r := by rw [if_neg (show ¬ (false = true) by decide)] at H; exact H
    clear H
    have H := H1
    clear H1
    obtain rfl := Option.some.inj H
    have hcz28_0 := cf0 BK557.out
    have hcz28_1 := cf1 BK557.out
    have hcz28_2 := cf2 BK557.out
    have hfz28_0 := blk_frozen BK557.out 0
    have hfz28_1 := blk_frozen BK557.out 1
    have hfz28_2 := blk_frozen BK557.out 2
    go_wp2_with (first | ((with_reducible refine gate_callee (f := 87) rfl ?_); refine goesL_ (some 14) rfl rfl Try.func87 (by kernel_rfl) rfl #[.agg #[.int .i64 a0_0, .int .i64 a0_1, .int .i64 a0_2]] rfl (by (try simp only [List.map_toArray, List.map_cons, List.map_nil]); first | done | rfl | (simp only [List.length_drop, List.length_take]; rfl)) ?_; (with_reducible refine (spec_l1Reads.calls a0_0 a0_1 a0_2 true _ A7.out).mono ?_); rintro e w29 ⟨rfl, hb⟩; refine ⟨_, rfl, ?_⟩; replace BK557 := am_ (blk_below (bu BK557.out) hb); replace HB := am_ (below_step z125_3 hb); (try clear hb); (try clear hb2); (try clear hk); (try clear hi); have hcz30_0 := cf0 BK557.out; have hcz30_1 := cf1 BK557.out; have hcz30_2 := cf2 BK557.out; have hfz30_0 := blk_frozen BK557.out 0; have hfz30_1 := blk_frozen BK557.out 1; have hfz30_2 := blk_frozen BK557.out 2) | ((with_reducible refine gate_callee (f := 72) rfl ?_); refine goesL_ (some 21) rfl rfl Try.func72 (by kernel_rfl) rfl #[.int .i64 a0_0, .int .i64 1, .int .i64 9] rfl (by (try simp only [List.map_toArray, List.map_cons, List.map_nil]); first | done | rfl | (simp only [List.length_drop, List.length_take]; rfl)) ?_; (with_reducible refine (spec_l6In.calls a0_0 1 9 false _ A9.out).mono ?_); rintro e w' ⟨rfl, ⟨nd, rfl⟩⟩; refine ⟨_, rfl, ?_⟩))
    go_ret
    exact ⟨z125_1, z125_3⟩
   replace c8 := Bool.eq_false_iff.mpr c8
   subst c8
   have H1 : ((spec_l1Writes.f a0_0 a0_1 a0_2).bind fun t562 => ((spec_l6In.f a0_0 1 9).bind fun t563 => (if t563 = true then (if t562 = true then ((spec_l6In.f a0_1 0 2).bind fun t564 => (if t564 = true then (if x3_1 = true then ((spec_l6In.f a0_2 1 3).bind fun t565 => (if t565 = true then (some true) else (some false))) else (some (a0_2 == 0))) else (some false))) else (if a0_1 = 0 then (if x3_1 = true then ((spec_l6In.f a0_2 1 3).bind fun t566 => (if t566 = true then (some true) else (some false))) else (some (a0_2 == 0))) else (some false))) else (some false)))) = some r := by rw [if_neg (show ¬ (false = true) by decide)] at H; exact H
   clear H
   have H := H1
   clear H1
   replace H := Option.bind_eq_some_iff.mp H
   obtain ⟨t562, A310, H⟩ := H
   replace H : ((spec_l6In.f a0_0 1 9).bind fun t563 => (if t563 = true then (if t562 = true then ((spec_l6In.f a0_1 0 2).bind fun t564 => (if t564 = true then (if x3_1 = true then ((spec_l6In.f a0_2 1 3).bind fun t565 => (if t565 = true then (some true) else (some false))) else (some (a0_2 == 0))) else (some false))) else (if a0_1 = 0 then (if x3_1 = true then ((spec_l6In.f a0_2 1 3).bind fun t566 => (if t566 = true then (some true) else (some false))) else (some (a0_2 == 0))) else (some false))) else (some false))) = some r := H
   have A31 := am_ A310
   clear A310
   replace H := Option.bind_eq_some_iff.mp H
   obtain ⟨t563, A320, H⟩ := H
   replace H : (if t563 = true then (if t562 = true then ((spec_l6In.f a0_1 0 2).bind fun t564 => (if t564 = true then (if x3_1 = true then ((spec_l6In.f a0_2 1 3).bind fun t565 => (if t565 = true then (some true) else (some false))) else (some (a0_2 == 0))) else (some false))) else (if a0_1 = 0 then (if x3_1 = true then ((spec_l6In.f a0_2 1 3).bind fun t566 => (if t566 = true then (some true) else (some false))) else (some (a0_2 == 0))) else (some false))) else (some false)) = some r := H
   have A32 := am_ A320
   clear A320
   by_cases c33 : t563 = true
   ·subst c33
    have H1 : (if t562 = true then ((spec_l6In.f a0_1 0 2).bind fun t564 => (if t564 = true then (if x3_1 = true then ((spec_l6In.f a0_2 1 3).bind fun t565 => (if t565 = true then (some true) else (some false))) else (some (a0_2 == 0))) else (some false))) else (if a0_1 = 0 then (if x3_1 = true then ((spec_l6In.f a0_2 1 3).bind fun t566 => (if t566 = true then (some true) else (some false))) else (some (a0_2 == 0))) else (some false))) = some r := by rw [if_pos rfl] at H; exact H
    clear H
    have H := H1
    clear H1
    by_cases c34 : t562 = true
    ·subst c34
     have H1 : ((spec_l6In.f a0_1 0 2).bind fun t564 => (if t564 = true then (if x3_1 = true then ((spec_l6In.f a0_2 1 3).bind fun t565 => (if t565 = true then (some true) else (some false))) else (some (a0_2 == 0))) else (some false))) = some r := by rw [if_pos rfl] at H; exact H
     clear H
     have H := H1
     clear H1
     replace H := Option.bind_eq_some_iff.mp H
     obtain ⟨t564, A350, H⟩ := H
     replace H : (if t564 = true then (if x3_1 = true then ((spec_l6In.f a0_2 1 3).bind fun t565 => (if t565 = true then (some true) else (some false))) else (some (a0_2 == 0))) else (some false)) = some r := H
     have A35 := am_ A350
     clear A350
     by_cases c36 : t564 = true
     ·subst c36
      have H1 : (if x3_1 = true then ((spec_l6In.f a0_2 1 3).bind fun t565 => (if t565 = true then (some true) else (some false))) else (some (a0_2 == 0))) = some r := by rw [if_pos rfl] at H; exact H
      clear H
      have H := H1
      clear H1
      by_cases c37 : x3_1 = true
      ·subst c37
       have H1 : ((spec_l6In.f a0_2 1 3).bind fun t565 => (if t565 = true then (some true) else (some false))) = some r := by rw [if_pos rfl] at H; exact H
       clear H
       have H := H1
       clear H1
       replace H := Option.bind_eq_some_iff.mp H
       obtain ⟨t565, A380, H⟩ := H
       replace H : (if t565 = true then (some true) else (some false)) = some r := H
       have A38 := am_ A380
       clear A380
       by_cases c39 : t565 = true
       ·subst c39
        have H1 : (some true) = some r := by rw [if_pos rfl] at H; exact H
        clear H
        have H := H1
        clear H1
        obtain rfl := Option.some.inj H
        have hcz40_0 := cf0 BK557.out
        have hcz40_1 := cf1 BK557.out
        have hcz40_2 := cf2 BK557.out
        have hfz40_0 := blk_frozen BK557.out 0
        have hfz40_1 := blk_frozen BK557.out 1
        have hfz40_2 := blk_frozen BK557.out 2
        go_wp2_with (first | ((with_reducible refine gate_callee (f := 87) rfl ?_); refine goesL_ (some 14) rfl rfl Try.func87 (by kernel_rfl) rfl #[.agg #[.int .i64 a0_0, .int .i64 a0_1, .int .i64 a0_2]] rfl (by (try simp only [List.map_toArray, List.map_cons, List.map_nil]); first | done | rfl | (simp only [List.length_drop, List.length_take]; rfl)) ?_; (with_reducible refine (spec_l1Reads.calls a0_0 a0_1 a0_2 false _ A7.out).mono ?_); rintro e w41 ⟨rfl, hb⟩; refine ⟨_, rfl, ?_⟩; replace BK557 := am_ (blk_below (bu BK557.out) hb); replace HB := am_ (below_step z125_3 hb); (try clear hb); (try clear hb2); (try clear hk); (try clear hi); have hcz42_0 := cf0 BK557.out; have hcz42_1 := cf1 BK557.out; have hcz42_2 := cf2 BK557.out; have hfz42_0 := blk_frozen BK557.out 0; have hfz42_1 := blk_frozen BK557.out 1; have hfz42_2 := blk_frozen BK557.out 2) | (go_at_call 88; (with_reducible refine (spec_l1Writes.calls a0_0 a0_1 a0_2 true _ A31.out).mono ?_); rintro e w43 ⟨rfl, hb⟩; replace BK557 := am_ (blk_below (bu BK557.out) hb); replace HB := am_ (below_step z125_3 hb); (try clear hb); (try clear hb2); (try clear hk); (try clear hi); have hcz44_0 := cf0 BK557.out; have hcz44_1 := cf1 BK557.out; have hcz44_2 := cf2 BK557.out; have hfz44_0 := blk_frozen BK557.out 0; have hfz44_1 := blk_frozen BK557.out 1; have hfz44_2 := blk_frozen BK557.out 2) | ((with_reducible refine gate_callee (f := 72) rfl ?_); refine goesL_ (some 21) rfl rfl Try.func72 (by kernel_rfl) rfl #[.int .i64 a0_0, .int .i64 1, .int .i64 9] rfl (by (try simp only [List.map_toArray, List.map_cons, List.map_nil]); first | done | rfl | (simp only [List.length_drop, List.length_take]; rfl)) ?_; (with_reducible refine (spec_l6In.calls a0_0 1 9 true _ A32.out).mono ?_); rintro e w' ⟨rfl, ⟨nd, rfl⟩⟩; refine ⟨_, rfl, ?_⟩) | (go_at_call 72; (with_reducible refine (spec_l6In.calls a0_1 0 2 true _ A35.out).mono ?_); rintro e w' ⟨rfl, ⟨nd, rfl⟩⟩) | (go_at_call 72; (with_reducible refine (spec_l6In.calls a0_2 1 3 true _ A38.out).mono ?_); rintro e w' ⟨rfl, ⟨nd, rfl⟩⟩))
        go_ret
        exact ⟨z125_1, z125_3⟩
       replace c39 := Bool.eq_false_iff.mpr c39
       subst c39
       have H1 : (some false) = some r := by rw [if_neg (show ¬ (false = true) by decide)] at H; exact H
       clear H
       have H := H1
       clear H1
       obtain rfl := Option.some.inj H
       have hcz45_0 := cf0 BK557.out
       have hcz45_1 := cf1 BK557.out
       have hcz45_2 := cf2 BK557.out
       have hfz45_0 := blk_frozen BK557.out 0
       have hfz45_1 := blk_frozen BK557.out 1
       have hfz45_2 := blk_frozen BK557.out 2
       go_wp2_with (first | ((with_reducible refine gate_callee (f := 87) rfl ?_); refine goesL_ (some 14) rfl rfl Try.func87 (by kernel_rfl) rfl #[.agg #[.int .i64 a0_0, .int .i64 a0_1, .int .i64 a0_2]] rfl (by (try simp only [List.map_toArray, List.map_cons, List.map_nil]); first | done | rfl | (simp only [List.length_drop, List.length_take]; rfl)) ?_; (with_reducible refine (spec_l1Reads.calls a0_0 a0_1 a0_2 false _ A7.out).mono ?_); rintro e w46 ⟨rfl, hb⟩; refine ⟨_, rfl, ?_⟩; replace BK557 := am_ (blk_below (bu BK557.out) hb); replace HB := am_ (below_step z125_3 hb); (try clear hb); (try clear hb2); (try clear hk); (try clear hi); have hcz47_0 := cf0 BK557.out; have hcz47_1 := cf1 BK557.out; have hcz47_2 := cf2 BK557.out; have hfz47_0 := blk_frozen BK557.out 0; have hfz47_1 := blk_frozen BK557.out 1; have hfz47_2 := blk_frozen BK557.out 2) | (go_at_call 88; (with_reducible refine (spec_l1Writes.calls a0_0 a0_1 a0_2 true _ A31.out).mono ?_); rintro e w48 ⟨rfl, hb⟩; replace BK557 := am_ (blk_below (bu BK557.out) hb); replace HB := am_ (below_step z125_3 hb); (try clear hb); (try clear hb2); (try clear hk); (try clear hi); have hcz49_0 := cf0 BK557.out; have hcz49_1 := cf1 BK557.out; have hcz49_2 := cf2 BK557.out; have hfz49_0 := blk_frozen BK557.out 0; have hfz49_1 := blk_frozen BK557.out 1; have hfz49_2 := blk_frozen BK557.out 2) | ((with_reducible refine gate_callee (f := 72) rfl ?_); refine goesL_ (some 21) rfl rfl Try.func72 (by kernel_rfl) rfl #[.int .i64 a0_0, .int .i64 1, .int .i64 9] rfl (by (try simp only [List.map_toArray, List.map_cons, List.map_nil]); first | done | rfl | (simp only [List.length_drop, List.length_take]; rfl)) ?_; (with_reducible refine (spec_l6In.calls a0_0 1 9 true _ A32.out).mono ?_); rintro e w' ⟨rfl, ⟨nd, rfl⟩⟩; refine ⟨_, rfl, ?_⟩) | (go_at_call 72; (with_reducible refine (spec_l6In.calls a0_1 0 2 true _ A35.out).mono ?_); rintro e w' ⟨rfl, ⟨nd, rfl⟩⟩) | (go_at_call 72; (with_reducible refine (spec_l6In.calls a0_2 1 3 false _ A38.out).mono ?_); rintro e w' ⟨rfl, ⟨nd, rfl⟩⟩))
       go_ret
       exact ⟨z125_1, z125_3⟩
      replace c37 := Bool.eq_false_iff.mpr c37
      subst c37
      have H1 : (some (a0_2 == 0)) = some r := by rw [if_neg (show ¬ (false = true) by decide)] at H; exact H
      clear H
      have H := H1
      clear H1
      obtain rfl := Option.some.inj H
      have hcz50_0 := cf0 BK557.out
      have hcz50_1 := cf1 BK557.out
      have hcz50_2 := cf2 BK557.out
      have hfz50_0 := blk_frozen BK557.out 0
      have hfz50_1 := blk_frozen BK557.out 1
      have hfz50_2 := blk_frozen BK557.out 2
      go_wp2_with (first | ((with_reducible refine gate_callee (f := 87) rfl ?_); refine goesL_ (some 14) rfl rfl Try.func87 (by kernel_rfl) rfl #[.agg #[.int .i64 a0_0, .int .i64 a0_1, .int .i64 a0_2]] rfl (by (try simp only [List.map_toArray, List.map_cons, List.map_nil]); first | done | rfl | (simp only [List.length_drop, List.length_take]; rfl)) ?_; (with_reducible refine (spec_l1Reads.calls a0_0 a0_1 a0_2 false _ A7.out).mono ?_); rintro e w51 ⟨rfl, hb⟩; refine ⟨_, rfl, ?_⟩; replace BK557 := am_ (blk_below (bu BK557.out) hb); replace HB := am_ (below_step z125_3 hb); (try clear hb); (try clear hb2); (try clear hk); (try clear hi); have hcz52_0 := cf0 BK557.out; have hcz52_1 := cf1 BK557.out; have hcz52_2 := cf2 BK557.out; have hfz52_0 := blk_frozen BK557.out 0; have hfz52_1 := blk_frozen BK557.out 1; have hfz52_2 := blk_frozen BK557.out 2) | (go_at_call 88; (with_reducible refine (spec_l1Writes.calls a0_0 a0_1 a0_2 true _ A31.out).mono ?_); rintro e w53 ⟨rfl, hb⟩; replace BK557 := am_ (blk_below (bu BK557.out) hb); replace HB := am_ (below_step z125_3 hb); (try clear hb); (try clear hb2); (try clear hk); (try clear hi); have hcz54_0 := cf0 BK557.out; have hcz54_1 := cf1 BK557.out; have hcz54_2 := cf2 BK557.out; have hfz54_0 := blk_frozen BK557.out 0; have hfz54_1 := blk_frozen BK557.out 1; have hfz54_2 := blk_frozen BK557.out 2) | ((with_reducible refine gate_callee (f := 72) rfl ?_); refine goesL_ (some 21) rfl rfl Try.func72 (by kernel_rfl) rfl #[.int .i64 a0_0, .int .i64 1, .int .i64 9] rfl (by (try simp only [List.map_toArray, List.map_cons, List.map_nil]); first | done | rfl | (simp only [List.length_drop, List.length_take]; rfl)) ?_; (with_reducible refine (spec_l6In.calls a0_0 1 9 true _ A32.out).mono ?_); rintro e w' ⟨rfl, ⟨nd, rfl⟩⟩; refine ⟨_, rfl, ?_⟩) | (go_at_call 72; (with_reducible refine (spec_l6In.calls a0_1 0 2 true _ A35.out).mono ?_); rintro e w' ⟨rfl, ⟨nd, rfl⟩⟩))
      go_ret
      exact ⟨z125_1, z125_3⟩
     replace c36 := Bool.eq_false_iff.mpr c36
     subst c36
     have H1 : (some false) = some r := by rw [if_neg (show ¬ (false = true) by decide)] at H; exact H
     clear H
     have H := H1
     clear H1
     obtain rfl := Option.some.inj H
     have hcz55_0 := cf0 BK557.out
     have hcz55_1 := cf1 BK557.out
     have hcz55_2 := cf2 BK557.out
     have hfz55_0 := blk_frozen BK557.out 0
     have hfz55_1 := blk_frozen BK557.out 1
     have hfz55_2 := blk_frozen BK557.out 2
     go_wp2_with (first | ((with_reducible refine gate_callee (f := 87) rfl ?_); refine goesL_ (some 14) rfl rfl Try.func87 (by kernel_rfl) rfl #[.agg #[.int .i64 a0_0, .int .i64 a0_1, .int .i64 a0_2]] rfl (by (try simp only [List.map_toArray, List.map_cons, List.map_nil]); first | done | rfl | (simp only [List.length_drop, List.length_take]; rfl)) ?_; (with_reducible refine (spec_l1Reads.calls a0_0 a0_1 a0_2 false _ A7.out).mono ?_); rintro e w56 ⟨rfl, hb⟩; refine ⟨_, rfl, ?_⟩; replace BK557 := am_ (blk_below (bu BK557.out) hb); replace HB := am_ (below_step z125_3 hb); (try clear hb); (try clear hb2); (try clear hk); (try clear hi); have hcz57_0 := cf0 BK557.out; have hcz57_1 := cf1 BK557.out; have hcz57_2 := cf2 BK557.out; have hfz57_0 := blk_frozen BK557.out 0; have hfz57_1 := blk_frozen BK557.out 1; have hfz57_2 := blk_frozen BK557.out 2) | (go_at_call 88; (with_reducible refine (spec_l1Writes.calls a0_0 a0_1 a0_2 true _ A31.out).mono ?_); rintro e w58 ⟨rfl, hb⟩; replace BK557 := am_ (blk_below (bu BK557.out) hb); replace HB := am_ (below_step z125_3 hb); (try clear hb); (try clear hb2); (try clear hk); (try clear hi); have hcz59_0 := cf0 BK557.out; have hcz59_1 := cf1 BK557.out; have hcz59_2 := cf2 BK557.out; have hfz59_0 := blk_frozen BK557.out 0; have hfz59_1 := blk_frozen BK557.out 1; have hfz59_2 := blk_frozen BK557.out 2) | ((with_reducible refine gate_callee (f := 72) rfl ?_); refine goesL_ (some 21) rfl rfl Try.func72 (by kernel_rfl) rfl #[.int .i64 a0_0, .int .i64 1, .int .i64 9] rfl (by (try simp only [List.map_toArray, List.map_cons, List.map_nil]); first | done | rfl | (simp only [List.length_drop, List.length_take]; rfl)) ?_; (with_reducible refine (spec_l6In.calls a0_0 1 9 true _ A32.out).mono ?_); rintro e w' ⟨rfl, ⟨nd, rfl⟩⟩; refine ⟨_, rfl, ?_⟩) | (go_at_call 72; (with_reducible refine (spec_l6In.calls a0_1 0 2 false _ A35.out).mono ?_); rintro e w' ⟨rfl, ⟨nd, rfl⟩⟩))
     go_ret
     exact ⟨z125_1, z125_3⟩
    replace c34 := Bool.eq_false_iff.mpr c34
    subst c34
    have H1 : (if a0_1 = 0 then (if x3_1 = true then ((spec_l6In.f a0_2 1 3).bind fun t566 => (if t566 = true then (some true) else (some false))) else (some (a0_2 == 0))) else (some false)) = some r := by rw [if_neg (show ¬ (false = true) by decide)] at H; exact H
    clear H
    have H := H1
    clear H1
    by_cases c60 : a0_1 = 0
    ·rw [if_pos c60] at H
     have c60b0 : (a0_1 == 0) = true := beq_iff_eq.mpr c60
     have c60b1 : (a0_1 != 0) = false := bne_eq_false_iff_eq.mpr c60
     clear c60
     by_cases c61 : x3_1 = true
     ·subst c61
      have H1 : ((spec_l6In.f a0_2 1 3).bind fun t566 => (if t566 = true then (some true) else (some false))) = some r := by rw [if_pos rfl] at H; exact H
      clear H
      have H := H1
      clear H1
      replace H := Option.bind_eq_some_iff.mp H
      obtain ⟨t566, A620, H⟩ := H
      replace H : (if t566 = true then (some true) else (some false)) = some r := H
      have A62 := am_ A620
      clear A620
      by_cases c63 : t566 = true
      ·subst c63
       have H1 : (some true) = some r := by rw [if_pos rfl] at H; exact H
       clear H
       have H := H1
       clear H1
       obtain rfl := Option.some.inj H
       have hcz64_0 := cf0 BK557.out
       have hcz64_1 := cf1 BK557.out
       have hcz64_2 := cf2 BK557.out
       have hfz64_0 := blk_frozen BK557.out 0
       have hfz64_1 := blk_frozen BK557.out 1
       have hfz64_2 := blk_frozen BK557.out 2
       go_wp2_with (first | ((with_reducible refine gate_callee (f := 87) rfl ?_); refine goesL_ (some 14) rfl rfl Try.func87 (by kernel_rfl) rfl #[.agg #[.int .i64 a0_0, .int .i64 a0_1, .int .i64 a0_2]] rfl (by (try simp only [List.map_toArray, List.map_cons, List.map_nil]); first | done | rfl | (simp only [List.length_drop, List.length_take]; rfl)) ?_; (with_reducible refine (spec_l1Reads.calls a0_0 a0_1 a0_2 false _ A7.out).mono ?_); rintro e w65 ⟨rfl, hb⟩; refine ⟨_, rfl, ?_⟩; replace BK557 := am_ (blk_below (bu BK557.out) hb); replace HB := am_ (below_step z125_3 hb); (try clear hb); (try clear hb2); (try clear hk); (try clear hi); have hcz66_0 := cf0 BK557.out; have hcz66_1 := cf1 BK557.out; have hcz66_2 := cf2 BK557.out; have hfz66_0 := blk_frozen BK557.out 0; have hfz66_1 := blk_frozen BK557.out 1; have hfz66_2 := blk_frozen BK557.out 2) | (go_at_call 88; (with_reducible refine (spec_l1Writes.calls a0_0 a0_1 a0_2 false _ A31.out).mono ?_); rintro e w67 ⟨rfl, hb⟩; replace BK557 := am_ (blk_below (bu BK557.out) hb); replace HB := am_ (below_step z125_3 hb); (try clear hb); (try clear hb2); (try clear hk); (try clear hi); have hcz68_0 := cf0 BK557.out; have hcz68_1 := cf1 BK557.out; have hcz68_2 := cf2 BK557.out; have hfz68_0 := blk_frozen BK557.out 0; have hfz68_1 := blk_frozen BK557.out 1; have hfz68_2 := blk_frozen BK557.out 2) | ((with_reducible refine gate_callee (f := 72) rfl ?_); refine goesL_ (some 21) rfl rfl Try.func72 (by kernel_rfl) rfl #[.int .i64 a0_0, .int .i64 1, .int .i64 9] rfl (by (try simp only [List.map_toArray, List.map_cons, List.map_nil]); first | done | rfl | (simp only [List.length_drop, List.length_take]; rfl)) ?_; (with_reducible refine (spec_l6In.calls a0_0 1 9 true _ A32.out).mono ?_); rintro e w' ⟨rfl, ⟨nd, rfl⟩⟩; refine ⟨_, rfl, ?_⟩) | (go_at_call 72; (with_reducible refine (spec_l6In.calls a0_2 1 3 true _ A62.out).mono ?_); rintro e w' ⟨rfl, ⟨nd, rfl⟩⟩))
       go_ret
       exact ⟨z125_1, z125_3⟩
      replace c63 := Bool.eq_false_iff.mpr c63
      subst c63
      have H1 : (some false) = some r := by rw [if_neg (show ¬ (false = true) by decide)] at H; exact H
      clear H
      have H := H1
      clear H1
      obtain rfl := Option.some.inj H
      have hcz69_0 := cf0 BK557.out
      have hcz69_1 := cf1 BK557.out
      have hcz69_2 := cf2 BK557.out
      have hfz69_0 := blk_frozen BK557.out 0
      have hfz69_1 := blk_frozen BK557.out 1
      have hfz69_2 := blk_frozen BK557.out 2
      go_wp2_with (first | ((with_reducible refine gate_callee (f := 87) rfl ?_); refine goesL_ (some 14) rfl rfl Try.func87 (by kernel_rfl) rfl #[.agg #[.int .i64 a0_0, .int .i64 a0_1, .int .i64 a0_2]] rfl (by (try simp only [List.map_toArray, List.map_cons, List.map_nil]); first | done | rfl | (simp only [List.length_drop, List.length_take]; rfl)) ?_; (with_reducible refine (spec_l1Reads.calls a0_0 a0_1 a0_2 false _ A7.out).mono ?_); rintro e w70 ⟨rfl, hb⟩; refine ⟨_, rfl, ?_⟩; replace BK557 := am_ (blk_below (bu BK557.out) hb); replace HB := am_ (below_step z125_3 hb); (try clear hb); (try clear hb2); (try clear hk); (try clear hi); have hcz71_0 := cf0 BK557.out; have hcz71_1 := cf1 BK557.out; have hcz71_2 := cf2 BK557.out; have hfz71_0 := blk_frozen BK557.out 0; have hfz71_1 := blk_frozen BK557.out 1; have hfz71_2 := blk_frozen BK557.out 2) | (go_at_call 88; (with_reducible refine (spec_l1Writes.calls a0_0 a0_1 a0_2 false _ A31.out).mono ?_); rintro e w72 ⟨rfl, hb⟩; replace BK557 := am_ (blk_below (bu BK557.out) hb); replace HB := am_ (below_step z125_3 hb); (try clear hb); (try clear hb2); (try clear hk); (try clear hi); have hcz73_0 := cf0 BK557.out; have hcz73_1 := cf1 BK557.out; have hcz73_2 := cf2 BK557.out; have hfz73_0 := blk_frozen BK557.out 0; have hfz73_1 := blk_frozen BK557.out 1; have hfz73_2 := blk_frozen BK557.out 2) | ((with_reducible refine gate_callee (f := 72) rfl ?_); refine goesL_ (some 21) rfl rfl Try.func72 (by kernel_rfl) rfl #[.int .i64 a0_0, .int .i64 1, .int .i64 9] rfl (by (try simp only [List.map_toArray, List.map_cons, List.map_nil]); first | done | rfl | (simp only [List.length_drop, List.length_take]; rfl)) ?_; (with_reducible refine (spec_l6In.calls a0_0 1 9 true _ A32.out).mono ?_); rintro e w' ⟨rfl, ⟨nd, rfl⟩⟩; refine ⟨_, rfl, ?_⟩) | (go_at_call 72; (with_reducible refine (spec_l6In.calls a0_2 1 3 false _ A62.out).mono ?_); rintro e w' ⟨rfl, ⟨nd, rfl⟩⟩))
      go_ret
      exact ⟨z125_1, z125_3⟩
     replace c61 := Bool.eq_false_iff.mpr c61
     subst c61
     have H1 : (some (a0_2 == 0)) = some r := by rw [if_neg (show ¬ (false = true) by decide)] at H; exact H
     clear H
     have H := H1
     clear H1
     obtain rfl := Option.some.inj H
     have hcz74_0 := cf0 BK557.out
     have hcz74_1 := cf1 BK557.out
     have hcz74_2 := cf2 BK557.out
     have hfz74_0 := blk_frozen BK557.out 0
     have hfz74_1 := blk_frozen BK557.out 1
     have hfz74_2 := blk_frozen BK557.out 2
     go_wp2_with (first | ((with_reducible refine gate_callee (f := 87) rfl ?_); refine goesL_ (some 14) rfl rfl Try.func87 (by kernel_rfl) rfl #[.agg #[.int .i64 a0_0, .int .i64 a0_1, .int .i64 a0_2]] rfl (by (try simp only [List.map_toArray, List.map_cons, List.map_nil]); first | done | rfl | (simp only [List.length_drop, List.length_take]; rfl)) ?_; (with_reducible refine (spec_l1Reads.calls a0_0 a0_1 a0_2 false _ A7.out).mono ?_); rintro e w75 ⟨rfl, hb⟩; refine ⟨_, rfl, ?_⟩; replace BK557 := am_ (blk_below (bu BK557.out) hb); replace HB := am_ (below_step z125_3 hb); (try clear hb); (try clear hb2); (try clear hk); (try clear hi); have hcz76_0 := cf0 BK557.out; have hcz76_1 := cf1 BK557.out; have hcz76_2 := cf2 BK557.out; have hfz76_0 := blk_frozen BK557.out 0; have hfz76_1 := blk_frozen BK557.out 1; have hfz76_2 := blk_frozen BK557.out 2) | (go_at_call 88; (with_reducible refine (spec_l1Writes.calls a0_0 a0_1 a0_2 false _ A31.out).mono ?_); rintro e w77 ⟨rfl, hb⟩; replace BK557 := am_ (blk_below (bu BK557.out) hb); replace HB := am_ (below_step z125_3 hb); (try clear hb); (try clear hb2); (try clear hk); (try clear hi); have hcz78_0 := cf0 BK557.out; have hcz78_1 := cf1 BK557.out; have hcz78_2 := cf2 BK557.out; have hfz78_0 := blk_frozen BK557.out 0; have hfz78_1 := blk_frozen BK557.out 1; have hfz78_2 := blk_frozen BK557.out 2) | ((with_reducible refine gate_callee (f := 72) rfl ?_); refine goesL_ (some 21) rfl rfl Try.func72 (by kernel_rfl) rfl #[.int .i64 a0_0, .int .i64 1, .int .i64 9] rfl (by (try simp only [List.map_toArray, List.map_cons, List.map_nil]); first | done | rfl | (simp only [List.length_drop, List.length_take]; rfl)) ?_; (with_reducible refine (spec_l6In.calls a0_0 1 9 true _ A32.out).mono ?_); rintro e w' ⟨rfl, ⟨nd, rfl⟩⟩; refine ⟨_, rfl, ?_⟩))
     go_ret
     exact ⟨z125_1, z125_3⟩
    rw [if_neg c60] at H
    have c60b0 : (a0_1 == 0) = false := beq_eq_false_iff_ne.mpr c60
    have c60b1 : (a0_1 != 0) = true := bne_iff_ne.mpr c60
    obtain rfl := Option.some.inj H
    have hcz79_0 := cf0 BK557.out
    have hcz79_1 := cf1 BK557.out
    have hcz79_2 := cf2 BK557.out
    have hfz79_0 := blk_frozen BK557.out 0
    have hfz79_1 := blk_frozen BK557.out 1
    have hfz79_2 := blk_frozen BK557.out 2
    go_wp2_with (first | ((with_reducible refine gate_callee (f := 87) rfl ?_); refine goesL_ (some 14) rfl rfl Try.func87 (by kernel_rfl) rfl #[.agg #[.int .i64 a0_0, .int .i64 a0_1, .int .i64 a0_2]] rfl (by (try simp only [List.map_toArray, List.map_cons, List.map_nil]); first | done | rfl | (simp only [List.length_drop, List.length_take]; rfl)) ?_; (with_reducible refine (spec_l1Reads.calls a0_0 a0_1 a0_2 false _ A7.out).mono ?_); rintro e w80 ⟨rfl, hb⟩; refine ⟨_, rfl, ?_⟩; replace BK557 := am_ (blk_below (bu BK557.out) hb); replace HB := am_ (below_step z125_3 hb); (try clear hb); (try clear hb2); (try clear hk); (try clear hi); have hcz81_0 := cf0 BK557.out; have hcz81_1 := cf1 BK557.out; have hcz81_2 := cf2 BK557.out; have hfz81_0 := blk_frozen BK557.out 0; have hfz81_1 := blk_frozen BK557.out 1; have hfz81_2 := blk_frozen BK557.out 2) | (go_at_call 88; (with_reducible refine (spec_l1Writes.calls a0_0 a0_1 a0_2 false _ A31.out).mono ?_); rintro e w82 ⟨rfl, hb⟩; replace BK557 := am_ (blk_below (bu BK557.out) hb); replace HB := am_ (below_step z125_3 hb); (try clear hb); (try clear hb2); (try clear hk); (try clear hi); have hcz83_0 := cf0 BK557.out; have hcz83_1 := cf1 BK557.out; have hcz83_2 := cf2 BK557.out; have hfz83_0 := blk_frozen BK557.out 0; have hfz83_1 := blk_frozen BK557.out 1; have hfz83_2 := blk_frozen BK557.out 2) | ((with_reducible refine gate_callee (f := 72) rfl ?_); refine goesL_ (some 21) rfl rfl Try.func72 (by kernel_rfl) rfl #[.int .i64 a0_0, .int .i64 1, .int .i64 9] rfl (by (try simp only [List.map_toArray, List.map_cons, List.map_nil]); first | done | rfl | (simp only [List.length_drop, List.length_take]; rfl)) ?_; (with_reducible refine (spec_l6In.calls a0_0 1 9 true _ A32.out).mono ?_); rintro e w' ⟨rfl, ⟨nd, rfl⟩⟩; refine ⟨_, rfl, ?_⟩))
    go_ret
    exact ⟨z125_1, z125_3⟩
   replace c33 := Bool.eq_false_iff.mpr c33
   subst c33
   have H1 : (some false) = some r := by rw [if_neg (show ¬ (false = true) by decide)] at H; exact H
   clear H
   have H := H1
   clear H1
   obtain rfl := Option.some.inj H
   have hcz84_0 := cf0 BK557.out
   have hcz84_1 := cf1 BK557.out
   have hcz84_2 := cf2 BK557.out
   have hfz84_0 := blk_frozen BK557.out 0
   have hfz84_1 := blk_frozen BK557.out 1
   have hfz84_2 := blk_frozen BK557.out 2
   go_wp2_with (first | ((with_reducible refine gate_callee (f := 87) rfl ?_); refine goesL_ (some 14) rfl rfl Try.func87 (by kernel_rfl) rfl #[.agg #[.int .i64 a0_0, .int .i64 a0_1, .int .i64 a0_2]] rfl (by (try simp only [List.map_toArray, List.map_cons, List.map_nil]); first | done | rfl | (simp only [List.length_drop, List.length_take]; rfl)) ?_; (with_reducible refine (spec_l1Reads.calls a0_0 a0_1 a0_2 false _ A7.out).mono ?_); rintro e w85 ⟨rfl, hb⟩; refine ⟨_, rfl, ?_⟩; replace BK557 := am_ (blk_below (bu BK557.out) hb); replace HB := am_ (below_step z125_3 hb); (try clear hb); (try clear hb2); (try clear hk); (try clear hi); have hcz86_0 := cf0 BK557.out; have hcz86_1 := cf1 BK557.out; have hcz86_2 := cf2 BK557.out; have hfz86_0 := blk_frozen BK557.out 0; have hfz86_1 := blk_frozen BK557.out 1; have hfz86_2 := blk_frozen BK557.out 2) | (go_at_call 88; (with_reducible refine (spec_l1Writes.calls a0_0 a0_1 a0_2 t562 _ A31.out).mono ?_); rintro e w87 ⟨rfl, hb⟩; replace BK557 := am_ (blk_below (bu BK557.out) hb); replace HB := am_ (below_step z125_3 hb); (try clear hb); (try clear hb2); (try clear hk); (try clear hi); have hcz88_0 := cf0 BK557.out; have hcz88_1 := cf1 BK557.out; have hcz88_2 := cf2 BK557.out; have hfz88_0 := blk_frozen BK557.out 0; have hfz88_1 := blk_frozen BK557.out 1; have hfz88_2 := blk_frozen BK557.out 2) | ((with_reducible refine gate_callee (f := 72) rfl ?_); refine goesL_ (some 21) rfl rfl Try.func72 (by kernel_rfl) rfl #[.int .i64 a0_0, .int .i64 1, .int .i64 9] rfl (by (try simp only [List.map_toArray, List.map_cons, List.map_nil]); first | done | rfl | (simp only [List.length_drop, List.length_take]; rfl)) ?_; (with_reducible refine (spec_l6In.calls a0_0 1 9 false _ A32.out).mono ?_); rintro e w' ⟨rfl, ⟨nd, rfl⟩⟩; refine ⟨_, rfl, ?_⟩))
   go_ret
   exact ⟨z125_1, z125_3⟩

end Go.Proofs.Ytefkbmhkhpekjaa.PB

-- Joined by wip/mclaim.py out of YtmkchdlkpbnldaaPBx43, YtmkchdlkpbnldaaPBx33, YtmkchdlkpbnldaaPBx19, YtmkchdlkpbnldaaPBx35, YtmkchdlkpbnldaaPBx20
import Derived.Test.YtmkchdlkpbnldaaPBx0
import Derived.Test.YtmkchdlkpbnldaaPBx14
import Derived.Test.YtmkchdlkpbnldaaPBx34
import Derived.Test.YtmkchdlkpbnldaaPBx48
import Derived.Test.YtmkchdlkpbnldaaPBx31
namespace Go.Proofs.Ytmkchdlkpbnldaa.PB
open Go.RowKit Go.Proofs.YtmkchdlkpbnldaaW.PrintWords Go.Proofs.YtmkchdlkpbnldaaW.PrintLast Go.Proofs.YtmkchdlkpbnldaaW.PrintMore
attribute [local go_sem] max2_int min2_int max_two min_two max_three min_three max_four min_four   -- for this text's walks alone
open Go.Proofs.YtmkchdlkpbnldaaMine
set_option linter.unusedVariables false
set_option linter.unusedSimpArgs false

theorem z43_1 {p : Prop} (h : p := by first | rfl | (simp; done) | (simp [*]; done)) : p := h
theorem z43_2 {p : Prop} (h : p := by first | rfl | (simp [errW_none, errW_some] <;> rfl) | (simp [*, errW_none, errW_some] <;> rfl)) : p := h
theorem z43_3 {p : Prop} (h : p := by repeat (first | (with_reducible first | exact HB.out | apply below_alloc | apply pw_below_drewN | apply below_drew1) | exact HB.out)) : p := h
theorem z43_4 {p : Prop} (h : p := by repeat (first | (with_reducible first | exact HB.out | apply below_alloc | apply pw_below_drewN | apply below_drew1 | refine below_set ?_ GE155.out) | exact HB.out)) : p := h
/-! ### impl_Do_formed: function 43 -/
def impl_Do_formed.j0 : Nat → Bool → Int → Int → Int → Option (Bool)
  | 0, _, _, _, _ => none
  | k + 1, x3, x00, x02, x01 => (impl_Do_valued.f x00 x02 x01).bind fun t158 => (if t158 = true then ((impl_in.f x01 1 3).bind fun t159 => ((impl_in.f x00 1 9).bind fun t160 => (if t160 = true then (if x3 = true then (some t159) else (some false)) else (some false)))) else ((impl_in.f x00 1 9).bind fun t161 => (if t161 = true then (if x3 = true then (some (x01 == 0)) else (some false)) else (some false))))
def impl_Do_formed.f (k : Nat) (a0_0 : Int) (a0_1 : Int) (a0_2 : Int) : Option (Bool) := if a0_1 = 0 then (impl_Do_formed.j0 k true a0_0 a0_1 a0_2) else ((impl_Do_uses.f a0_0 a0_1 a0_2).bind fun t156 => (if t156 = true then ((impl_in.f a0_1 0 2).bind fun t157 => (impl_Do_formed.j0 k t157 a0_0 a0_1 a0_2)) else (impl_Do_formed.j0 k false a0_0 a0_1 a0_2)))
set_option maxHeartbeats 8000000 in
set_option maxRecDepth 100000 in
theorem impl_Do_formed.calls (k : Nat) (a0_0 : Int) (a0_1 : Int) (a0_2 : Int) (r : Bool) (w : World) (h : impl_Do_formed.f k a0_0 a0_1 a0_2 = some r) :
  Calls Try.prog 43 #[.agg #[.int .i64 a0_0, .int .i64 a0_1, .int .i64 a0_2]] w fun e w' => e = .returned (.bool r) ∧ Below w.heap.size w w' := by
 have hu70 := Try.underlying70
 have HB := am_ (Below.refl w.heap.size w)
 have H : (if a0_1 = 0 then (impl_Do_formed.j0 k true a0_0 a0_1 a0_2) else ((impl_Do_uses.f a0_0 a0_1 a0_2).bind fun t156 => (if t156 = true then ((impl_in.f a0_1 0 2).bind fun t157 => (impl_Do_formed.j0 k t157 a0_0 a0_1 a0_2)) else (impl_Do_formed.j0 k false a0_0 a0_1 a0_2)))) = some r := h
 clear h
 have HC2 := am_ H
 clear H
 go_enter Try.func43, Try.ntmps43
 go_upto_region 1 with (first | ((with_reducible refine gate_dst (N := 1) rfl ?_); refine box_event ?hg (N := 1) ?hd (cs := #[.int .i64 a0_0, .int .i64 a0_1, .int .i64 a0_2]) (t := 70) ?hr ?_; (case hd => rfl); (case hg => rfl); (case hr => first | (go_simp; done) | (go_simp; rfl)); intro gb155 hg w3 hbox hb; have n0_ := am_ (below_step z43_3 hb); have n1_ := am_ (hbox); have n2_ := am_ (by rw [hg]; exact (below_size z43_3) : w.heap.size ≤ gb155); have n3_ := am_ (by rw [hg]; exact (below_size z43_3) : w.heap.size ≤ gb155); clear HB; have HB := n0_; have BK155 := n1_; have GW155 := n2_; have GE155 := n3_; clear n0_ n1_ n2_ n3_; clear hb hbox hg))
 (try simp only [Act.put, List.setIfInBounds_toArray, List.set_cons_zero, List.set_cons_succ])
 go_cut [3] (fun v3 wc => ∃ (kq : Nat) (x3_1 : Bool), v3 = .bool x3_1 ∧ Aside0 (impl_Do_formed.j0 kq x3_1 a0_0 a0_1 a0_2 = some r) ∧ Aside0 (kq ≤ k) ∧ Aside0 (wc.heap[gb155]? = some (.cells #[.int .i64 a0_0, .int .i64 a0_1, .int .i64 a0_2] 70 (0, 0))) ∧ Aside0 (Below w.heap.size w wc))
 case first =>
  have H := HC2.out
  clear HC2
  by_cases c4 : a0_1 = 0
  ·rw [if_pos c4] at H
   have c4b0 : (a0_1 == 0) = true := beq_iff_eq.mpr c4
   have c4b1 : (a0_1 != 0) = false := bne_eq_false_iff_eq.mpr c4
   clear c4
   (first | rw [c4b0] | (simp only [i64_w, i32_w]; rw [c4b0]) | skip)
   have H' := am_ H
   clear H
   have hcz5_0 := cf0 BK155.out
   have hcz5_1 := cf1 BK155.out
   have hcz5_2 := cf2 BK155.out
   have hfz5_0 := blk_frozen BK155.out 0
   have hfz5_1 := blk_frozen BK155.out 1
   have hfz5_2 := blk_frozen BK155.out 2
   go_wp2
   go_meet
   case rel => exact ⟨_, (true), z43_1, H', ⟨by first | omega | exact Nat.le_refl _⟩, ⟨bu BK155.out⟩, ⟨z43_4⟩⟩
  rw [if_neg c4] at H
  have c4b0 : (a0_1 == 0) = false := beq_eq_false_iff_ne.mpr c4
  have c4b1 : (a0_1 != 0) = true := bne_iff_ne.mpr c4
  (first | rw [c4b0] | (simp only [i64_w, i32_w]; rw [c4b0]) | skip)
  replace H := Option.bind_eq_some_iff.mp H
  obtain ⟨t156, A60, H⟩ := H
  replace H : (if t156 = true then ((impl_in.f a0_1 0 2).bind fun t157 => (impl_Do_formed.j0 k t157 a0_0 a0_1 a0_2)) else (impl_Do_formed.j0 k false a0_0 a0_1 a0_2)) = some r := H
  have A6 := am_ A60
  clear A60
  by_cases c7 : t156 = true
  ·subst c7
   have H1 : ((impl_in.f a0_1 0 2).bind fun t157 => (impl_Do_formed.j0 k t157 a0_0 a0_1 a0_2)) = some r := by rw [if_pos rfl] at H; exact H
   clear H
   have H := H1
   clear H1
   replace H := Option.bind_eq_some_iff.mp H
   obtain ⟨t157, A80, H⟩ := H
   replace H : (impl_Do_formed.j0 k t157 a0_0 a0_1 a0_2) = some r := H
   have A8 := am_ A80
   clear A80
   have H' := am_ H
   clear H
   have hcz9_0 := cf0 BK155.out
   have hcz9_1 := cf1 BK155.out
   have hcz9_2 := cf2 BK155.out
   have hfz9_0 := blk_frozen BK155.out 0
   have hfz9_1 := blk_frozen BK155.out 1
   have hfz9_2 := blk_frozen BK155.out 2
   go_wp2_with (first | (go_at_call 34; (with_reducible refine (impl_Do_uses.calls a0_0 a0_1 a0_2 true _ A6.out).mono ?_); rintro e w10 ⟨rfl, hb⟩; replace BK155 := am_ (blk_below (bu BK155.out) hb); replace HB := am_ (below_step z43_4 hb); (try clear hb); (try clear hb2); (try clear hk); (try clear hi); have hcz11_0 := cf0 BK155.out; have hcz11_1 := cf1 BK155.out; have hcz11_2 := cf2 BK155.out; have hfz11_0 := blk_frozen BK155.out 0; have hfz11_1 := blk_frozen BK155.out 1; have hfz11_2 := blk_frozen BK155.out 2) | (go_at_call 14; (with_reducible refine (impl_in.calls a0_1 0 2 t157 _ A8.out).mono ?_); rintro e w' ⟨rfl, ⟨nd, rfl⟩⟩))
   go_meet
   case rel => exact ⟨_, (t157), z43_1, H', ⟨by first | omega | exact Nat.le_refl _⟩, ⟨bu BK155.out⟩, ⟨z43_4⟩⟩
  replace c7 := Bool.eq_false_iff.mpr c7
  subst c7
  have H1 : (impl_Do_formed.j0 k false a0_0 a0_1 a0_2) = some r := by rw [if_neg (show ¬ (false = true) by decide)] at H; exact H
  clear H
  have H := H1
  clear H1
  have H' := am_ H
  clear H
  have hcz12_0 := cf0 BK155.out
  have hcz12_1 := cf1 BK155.out
  have hcz12_2 := cf2 BK155.out
  have hfz12_0 := blk_frozen BK155.out 0
  have hfz12_1 := blk_frozen BK155.out 1
  have hfz12_2 := blk_frozen BK155.out 2
  go_wp2_with (first | (go_at_call 34; (with_reducible refine (impl_Do_uses.calls a0_0 a0_1 a0_2 false _ A6.out).mono ?_); rintro e w13 ⟨rfl, hb⟩; replace BK155 := am_ (blk_below (bu BK155.out) hb); replace HB := am_ (below_step z43_4 hb); (try clear hb); (try clear hb2); (try clear hk); (try clear hi)))
  go_meet
  case rel => exact ⟨_, (false), z43_1, H', ⟨by first | omega | exact Nat.le_refl _⟩, ⟨bu BK155.out⟩, ⟨z43_4⟩⟩
 case rest =>
  clear HC2
  obtain ⟨kq, x3_1, rfl, HA, HJ1, BK155, HB⟩ := hcut
  cases kq with
  | zero => exact absurd HA.out (by simp [impl_Do_formed.j0])
  | succ kj1 =>
   have H := HA.out
   clear HA
   simp only [impl_Do_formed.j0] at H
   replace H := Option.bind_eq_some_iff.mp H
   obtain ⟨t158, A140, H⟩ := H
   replace H : (if t158 = true then ((impl_in.f a0_2 1 3).bind fun t159 => ((impl_in.f a0_0 1 9).bind fun t160 => (if t160 = true then (if x3_1 = true then (some t159) else (some false)) else (some false)))) else ((impl_in.f a0_0 1 9).bind fun t161 => (if t161 = true then (if x3_1 = true then (some (a0_2 == 0)) else (some false)) else (some false)))) = some r := H
   have A14 := am_ A140
   clear A140
   by_cases c15 : t158 = true
   ·subst c15
    have H1 : ((impl_in.f a0_2 1 3).bind fun t159 => ((impl_in.f a0_0 1 9).bind fun t160 => (if t160 = true then (if x3_1 = true then (some t159) else (some false)) else (some false)))) = some r := by rw [if_pos rfl] at H; exact H
    clear H
    have H := H1
    clear H1
    replace H := Option.bind_eq_some_iff.mp H
    obtain ⟨t159, A160, H⟩ := H
    replace H : ((impl_in.f a0_0 1 9).bind fun t160 => (if t160 = true then (if x3_1 = true then (some t159) else (some false)) else (some false))) = some r := H
    have A16 := am_ A160
    clear A160
    replace H := Option.bind_eq_some_iff.mp H
    obtain ⟨t160, A170, H⟩ := H
    replace H : (if t160 = true then (if x3_1 = true then (some t159) else (some false)) else (some false)) = some r := H
    have A17 := am_ A170
    clear A170
    by_cases c18 : t160 = true
    ·subst c18
     have H1 : (if x3_1 = true then (some t159) else (some false)) = some r := by rw [if_pos rfl] at H; exact H
     clear H
     have H := H1
     clear H1
     by_cases c19 : x3_1 = true
     ·subst c19
      have H1 : (some t159) = some r := by rw [if_pos rfl] at H; exact H
      clear H
      have H := H1
      clear H1
      obtain rfl := Option.some.inj H
      have hcz20_0 := cf0 BK155.out
      have hcz20_1 := cf1 BK155.out
      have hcz20_2 := cf2 BK155.out
      have hfz20_0 := blk_frozen BK155.out 0
      have hfz20_1 := blk_frozen BK155.out 1
      have hfz20_2 := blk_frozen BK155.out 2
      go_wp2_with (first | ((with_reducible refine gate_callee (f := 48) rfl ?_); refine goesL_ (some 21) rfl rfl Try.func48 (by kernel_rfl) rfl #[.agg #[.int .i64 a0_0, .int .i64 a0_1, .int .i64 a0_2]] rfl (by (try simp only [List.map_toArray, List.map_cons, List.map_nil]); first | done | rfl | (simp only [List.length_drop, List.length_take]; rfl)) ?_; (with_reducible refine (impl_Do_valued.calls a0_0 a0_1 a0_2 true _ A14.out).mono ?_); rintro e w21 ⟨rfl, hb⟩; refine ⟨_, rfl, ?_⟩; replace BK155 := am_ (blk_below (bu BK155.out) hb); replace HB := am_ (below_step z43_4 hb); (try clear hb); (try clear hb2); (try clear hk); (try clear hi); have hcz22_0 := cf0 BK155.out; have hcz22_1 := cf1 BK155.out; have hcz22_2 := cf2 BK155.out; have hfz22_0 := blk_frozen BK155.out 0; have hfz22_1 := blk_frozen BK155.out 1; have hfz22_2 := blk_frozen BK155.out 2) | ((with_reducible refine gate_callee (f := 14) rfl ?_); refine goesL_ (some 24) rfl rfl Try.func14 (by kernel_rfl) rfl #[.int .i64 a0_2, .int .i64 1, .int .i64 3] rfl (by (try simp only [List.map_toArray, List.map_cons, List.map_nil]); first | done | rfl | (simp only [List.length_drop, List.length_take]; rfl)) ?_; (with_reducible refine (impl_in.calls a0_2 1 3 t159 _ A16.out).mono ?_); rintro e w' ⟨rfl, ⟨nd, rfl⟩⟩; refine ⟨_, rfl, ?_⟩) | ((with_reducible refine gate_callee (f := 14) rfl ?_); refine goesL_ (some 27) rfl rfl Try.func14 (by kernel_rfl) rfl #[.int .i64 a0_0, .int .i64 1, .int .i64 9] rfl (by (try simp only [List.map_toArray, List.map_cons, List.map_nil]); first | done | rfl | (simp only [List.length_drop, List.length_take]; rfl)) ?_; (with_reducible refine (impl_in.calls a0_0 1 9 true _ A17.out).mono ?_); rintro e w' ⟨rfl, ⟨nd, rfl⟩⟩; refine ⟨_, rfl, ?_⟩))
      go_ret
      exact ⟨z43_2, z43_4⟩
     replace c19 := Bool.eq_false_iff.mpr c19
     subst c19
     have H1 : (some false) = some r := by rw [if_neg (show ¬ (false = true) by decide)] at H; exact H
     clear H
     have H := H1
     clear H1
     obtain rfl := Option.some.inj H
     have hcz23_0 := cf0 BK155.out
     have hcz23_1 := cf1 BK155.out
     have hcz23_2 := cf2 BK155.out
     have hfz23_0 := blk_frozen BK155.out 0
     have hfz23_1 := blk_frozen BK155.out 1
     have hfz23_2 := blk_frozen BK155.out 2
     go_wp2_with (first | ((with_reducible refine gate_callee (f := 48) rfl ?_); refine goesL_ (some 21) rfl rfl Try.func48 (by kernel_rfl) rfl #[.agg #[.int .i64 a0_0, .int .i64 a0_1, .int .i64 a0_2]] rfl (by (try simp only [List.map_toArray, List.map_cons, List.map_nil]); first | done | rfl | (simp only [List.length_drop, List.length_take]; rfl)) ?_; (with_reducible refine (impl_Do_valued.calls a0_0 a0_1 a0_2 true _ A14.out).mono ?_); rintro e w24 ⟨rfl, hb⟩; refine ⟨_, rfl, ?_⟩; replace BK155 := am_ (blk_below (bu BK155.out) hb); replace HB := am_ (below_step z43_4 hb); (try clear hb); (try clear hb2); (try clear hk); (try clear hi); have hcz25_0 := cf0 BK155.out; have hcz25_1 := cf1 BK155.out; have hcz25_2 := cf2 BK155.out; have hfz25_0 := blk_frozen BK155.out 0; have hfz25_1 := blk_frozen BK155.out 1; have hfz25_2 := blk_frozen BK155.out 2) | ((with_reducible refine gate_callee (f := 14) rfl ?_); refine goesL_ (some 24) rfl rfl Try.func14 (by kernel_rfl) rfl #[.int .i64 a0_2, .int .i64 1, .int .i64 3] rfl (by (try simp only [List.map_toArray, List.map_cons, List.map_nil]); first | done | rfl | (simp only [List.length_drop, List.length_take]; rfl)) ?_; (with_reducible refine (impl_in.calls a0_2 1 3 t159 _ A16.out).mono ?_); rintro e w' ⟨rfl, ⟨nd, rfl⟩⟩; refine ⟨_, rfl, ?_⟩) | ((with_reducible refine gate_callee (f := 14) rfl ?_); refine goesL_ (some 27) rfl rfl Try.func14 (by kernel_rfl) rfl #[.int .i64 a0_0, .int .i64 1, .int .i64 9] rfl (by (try simp only [List.map_toArray, List.map_cons, List.map_nil]); first | done | rfl | (simp only [List.length_drop, List.length_take]; rfl)) ?_; (with_reducible refine (impl_in.calls a0_0 1 9 true _ A17.out).mono ?_); rintro e w' ⟨rfl, ⟨nd, rfl⟩⟩; refine ⟨_, rfl, ?_⟩))
     go_ret
     exact ⟨z43_2, z43_4⟩
    replace c18 := Bool.eq_false_iff.mpr c18
    subst c18
    have H1 : (some false) = some r := by rw [if_neg (show ¬ (false = true) by decide)] at H; exact H
    clear H
    have H := H1
    clear H1
    obtain rfl := Option.some.inj H
    have hcz26_0 := cf0 BK155.out
    have hcz26_1 := cf1 BK155.out
    have hcz26_2 := cf2 BK155.out
    have hfz26_0 := blk_frozen BK155.out 0
    have hfz26_1 := blk_frozen BK155.out 1
    have hfz26_2 := blk_frozen BK155.out 2
    go_wp2_with (first | ((with_reducible refine gate_callee (f := 48) rfl ?_); refine goesL_ (some 21) rfl rfl Try.func48 (by kernel_rfl) rfl #[.agg #[.int .i64 a0_0, .int .i64 a0_1, .int .i64 a0_2]] rfl (by (try simp only [List.map_toArray, List.map_cons, List.map_nil]); first | done | rfl | (simp only [List.length_drop, List.length_take]; rfl)) ?_; (with_reducible refine (impl_Do_valued.calls a0_0 a0_1 a0_2 true _ A14.out).mono ?_); rintro e w27 ⟨rfl, hb⟩; refine ⟨_, rfl, ?_⟩; replace BK155 := am_ (blk_below (bu BK155.out) hb); replace HB := am_ (below_step z43_4 hb); (try clear hb); (try clear hb2); (try clear hk); (try clear hi); have hcz28_0 := cf0 BK155.out; have hcz28_1 := cf1 BK155.out; have hcz28_2 := cf2 BK155.out; have hfz28_0 := blk_frozen BK155.out 0; have hfz28_1 := blk_frozen BK155.out 1; have hfz28_2 := blk_frozen BK155.out 2) | ((with_reducible refine gate_callee (f := 14) rfl ?_); refine goesL_ (some 24) rfl rfl Try.func14 (by kernel_rfl) rfl #[.int .i64 a0_2, .int .i64 1, .int .i64 3] rfl (by (try simp only [List.map_toArray, List.map_cons, List.map_nil]); first | done | rfl | (simp only [List.length_drop, List.length_take]; rfl)) ?_; (with_reducible refine (impl_in.calls a0_2 1 3 t159 _ A16.out).mono ?_); rintro e w' ⟨rfl, ⟨nd, rfl⟩⟩; refine ⟨_, rfl, ?_⟩) | ((with_reducible refine gate_callee (f := 14) rfl ?_); refine goesL_ (some 27) rfl rfl Try.func14 (by kernel_rfl) rfl #[.int .i64 a0_0, .int .i64 1, .int .i64 9] rfl (by (try simp only [List.map_toArray, List.map_cons, List.map_nil]); first | done | rfl | (simp only [List.length_drop, List.length_take]; rfl)) ?_; (with_reducible refine (impl_in.calls a0_0 1 9 false _ A17.out).mono ?_); rintro e w' ⟨rfl, ⟨nd, rfl⟩⟩; refine ⟨_, rfl, ?_⟩))
    go_ret
    exact ⟨z43_2, z43_4⟩
   replace c15 := Bool.eq_false_iff.mpr c15
   subst c15
   have H1 : ((impl_in.f a0_0 1 9).bind fun t161 => (if t161 = true then (if x3_1 = true then (some (a0_2 == 0)) else (some false)) else (some false))) = some r := by rw [if_neg (show ¬ (false = true) by decide)] at H; exact H
   clear H
   have H := H1
   clear H1
   replace H := Option.bind_eq_some_iff.mp H
   obtain ⟨t161, A290, H⟩ := H
   replace H : (if t161 = true then (if x3_1 = true then (some (a0_2 == 0)) else (some false)) else (some false)) = some r := H
   have A29 := am_ A290
   clear A290
   by_cases c30 : t161 = true
   ·subst c30
    have H1 : (if x3_1 = true then (some (a0_2 == 0)) else (some false)) = some r := by rw [if_pos rfl] at H; exact H
    clear H
    have H := H1
    clear H1
    by_cases c31 : x3_1 = true
    ·subst c31
     have H1 : (some (a0_2 == 0)) = some r := by rw [if_pos rfl] at H; exact H
     clear H
     have H := H1
     clear H1
     obtain rfl := Option.some.inj H
     have hcz32_0 := cf0 BK155.out
     have hcz32_1 := cf1 BK155.out
     have hcz32_2 := cf2 BK155.out
     have hfz32_0 := blk_frozen BK155.out 0
     have hfz32_1 := blk_frozen BK155.out 1
     have hfz32_2 := blk_frozen BK155.out 2
     go_wp2_with (first | ((with_reducible refine gate_callee (f := 48) rfl ?_); refine goesL_ (some 21) rfl rfl Try.func48 (by kernel_rfl) rfl #[.agg #[.int .i64 a0_0, .int .i64 a0_1, .int .i64 a0_2]] rfl (by (try simp only [List.map_toArray, List.map_cons, List.map_nil]); first | done | rfl | (simp only [List.length_drop, List.length_take]; rfl)) ?_; (with_reducible refine (impl_Do_valued.calls a0_0 a0_1 a0_2 false _ A14.out).mono ?_); rintro e w33 ⟨rfl, hb⟩; refine ⟨_, rfl, ?_⟩; replace BK155 := am_ (blk_below (bu BK155.out) hb); replace HB := am_ (below_step z43_4 hb); (try clear hb); (try clear hb2); (try clear hk); (try clear hi); have hcz34_0 := cf0 BK155.out; have hcz34_1 := cf1 BK155.out; have hcz34_2 := cf2 BK155.out; have hfz34_0 := blk_frozen BK155.out 0; have hfz34_1 := blk_frozen BK155.out 1; have hfz34_2 := blk_frozen BK155.out 2) | ((with_reducible refine gate_callee (f := 14) rfl ?_); refine goesL_ (some 27) rfl rfl Try.func14 (by kernel_rfl) rfl #[.int .i64 a0_0, .int .i64 1, .int .i64 9] rfl (by (try simp only [List.map_toArray, List.map_cons, List.map_nil]); first | done | rfl | (simp only [List.length_drop, List.length_take]; rfl)) ?_; (with_reducible refine (impl_in.calls a0_0 1 9 true _ A29.out).mono ?_); rintro e w' ⟨rfl, ⟨nd, rfl⟩⟩; refine ⟨_, rfl, ?_⟩))
     go_ret
     exact ⟨z43_2, z43_4⟩
    replace c31 := Bool.eq_false_iff.mpr c31
    subst c31
    have H1 : (some false) = some r := by rw [if_neg (show ¬ (false = true) by decide)] at H; exact H
    clear H
    have H := H1
    clear H1
    obtain rfl := Option.some.inj H
    have hcz35_0 := cf0 BK155.out
    have hcz35_1 := cf1 BK155.out
    have hcz35_2 := cf2 BK155.out
    have hfz35_0 := blk_frozen BK155.out 0
    have hfz35_1 := blk_frozen BK155.out 1
    have hfz35_2 := blk_frozen BK155.out 2
    go_wp2_with (first | ((with_reducible refine gate_callee (f := 48) rfl ?_); refine goesL_ (some 21) rfl rfl Try.func48 (by kernel_rfl) rfl #[.agg #[.int .i64 a0_0, .int .i64 a0_1, .int .i64 a0_2]] rfl (by (try simp only [List.map_toArray, List.map_cons, List.map_nil]); first | done | rfl | (simp only [List.length_drop, List.length_take]; rfl)) ?_; (with_reducible refine (impl_Do_valued.calls a0_0 a0_1 a0_2 false _ A14.out).mono ?_); rintro e w36 ⟨rfl, hb⟩; refine ⟨_, rfl, ?_⟩; replace BK155 := am_ (blk_below (bu BK155.out) hb); replace HB := am_ (below_step z43_4 hb); (try clear hb); (try clear hb2); (try clear hk); (try clear hi); have hcz37_0 := cf0 BK155.out; have hcz37_1 := cf1 BK155.out; have hcz37_2 := cf2 BK155.out; have hfz37_0 := blk_frozen BK155.out 0; have hfz37_1 := blk_frozen BK155.out 1; have hfz37_2 := blk_frozen BK155.out 2) | ((with_reducible refine gate_callee (f := 14) rfl ?_); refine goesL_ (some 27) rfl rfl Try.func14 (by kernel_rfl) rfl #[.int .i64 a0_0, .int .i64 1, .int .i64 9] rfl (by (try simp only [List.map_toArray, List.map_cons, List.map_nil]); first | done | rfl | (simp only [List.length_drop, List.length_take]; rfl)) ?_; (with_reducible refine (impl_in.calls a0_0 1 9 true _ A29.out).mono ?_); rintro e w' ⟨rfl, ⟨nd, rfl⟩⟩; refine ⟨_, rfl, ?_⟩))
    go_ret
    exact ⟨z43_2, z43_4⟩
   replace c30 := Bool.eq_false_iff.mpr c30
   subst c30
   have H1 : (some false) = some r := by rw [if_neg (show ¬ (false = true) by decide)] at H; exact H
   clear H
   have H := H1
   clear H1
   obtain rfl := Option.some.inj H
   have hcz38_0 := cf0 BK155.out
   have hcz38_1 := cf1 BK155.out
   have hcz38_2 := cf2 BK155.out
   have hfz38_0 := blk_frozen BK155.out 0
   have hfz38_1 := blk_frozen BK155.out 1
   have hfz38_2 := blk_frozen BK155.out 2
   go_wp2_with (first | ((with_reducible refine gate_callee (f := 48) rfl ?_); refine goesL_ (some 21) rfl rfl Try.func48 (by kernel_rfl) rfl #[.agg #[.int .i64 a0_0, .int .i64 a0_1, .int .i64 a0_2]] rfl (by (try simp only [List.map_toArray, List.map_cons, List.map_nil]); first | done | rfl | (simp only [List.length_drop, List.length_take]; rfl)) ?_; (with_reducible refine (impl_Do_valued.calls a0_0 a0_1 a0_2 false _ A14.out).mono ?_); rintro e w39 ⟨rfl, hb⟩; refine ⟨_, rfl, ?_⟩; replace BK155 := am_ (blk_below (bu BK155.out) hb); replace HB := am_ (below_step z43_4 hb); (try clear hb); (try clear hb2); (try clear hk); (try clear hi); have hcz40_0 := cf0 BK155.out; have hcz40_1 := cf1 BK155.out; have hcz40_2 := cf2 BK155.out; have hfz40_0 := blk_frozen BK155.out 0; have hfz40_1 := blk_frozen BK155.out 1; have hfz40_2 := blk_frozen BK155.out 2) | ((with_reducible refine gate_callee (f := 14) rfl ?_); refine goesL_ (some 27) rfl rfl Try.func14 (by kernel_rfl) rfl #[.int .i64 a0_0, .int .i64 1, .int .i64 9] rfl (by (try simp only [List.map_toArray, List.map_cons, List.map_nil]); first | done | rfl | (simp only [List.length_drop, List.length_take]; rfl)) ?_; (with_reducible refine (impl_in.calls a0_0 1 9 false _ A29.out).mono ?_); rintro e w' ⟨rfl, ⟨nd, rfl⟩⟩; refine ⟨_, rfl, ?_⟩))
   go_ret
   exact ⟨z43_2, z43_4⟩

end Go.Proofs.Ytmkchdlkpbnldaa.PB

namespace Go.Proofs.Ytmkchdlkpbnldaa.PB
open Go.RowKit Go.Proofs.YtmkchdlkpbnldaaW.PrintWords Go.Proofs.YtmkchdlkpbnldaaW.PrintLast Go.Proofs.YtmkchdlkpbnldaaW.PrintMore
attribute [local go_sem] max2_int min2_int max_two min_two max_three min_three max_four min_four   -- for this text's walks alone
open Go.Proofs.YtmkchdlkpbnldaaMine
set_option linter.unusedVariables false
set_option linter.unusedSimpArgs false

theorem z33_1 {p : Prop} (h : p := by first | rfl | (simp; done) | (simp [*]; done)) : p := h
theorem z33_2 {p : Prop} (h : p := by first | rfl | (simp [errW_none, errW_some] <;> rfl) | (simp [*, errW_none, errW_some] <;> rfl)) : p := h
theorem z33_3 {p : Prop} (h : p := by repeat (first | (with_reducible first | exact HB.out | apply below_alloc | apply pw_below_drewN | apply below_drew1) | exact HB.out)) : p := h
theorem z33_4 {p : Prop} (h : p := by repeat (first | (with_reducible first | exact HB.out | apply below_alloc | apply pw_below_drewN | apply below_drew1 | refine below_set ?_ GE163.out) | exact HB.out)) : p := h
theorem z33_5 {p : Prop} (h : p := by (with_reducible repeat (first | refine blk_drewN ?_ _ | refine blk_drew ?_ | refine blk_alloc ?_ _)); refine blk_put (cs := #[.int .i64 ((rd_T70 l0 x10_1).f0), .int .i64 ((rd_T70 l0 x10_1).f1), .int .i64 0]) ?_ 2 _ rfl; (with_reducible repeat (first | refine blk_drewN ?_ _ | refine blk_drew ?_ | refine blk_alloc ?_ _)); refine blk_put (cs := #[.int .i64 ((rd_T70 l0 x10_1).f0), .int .i64 0, .int .i64 0]) ?_ 1 _ rfl; (with_reducible repeat (first | refine blk_drewN ?_ _ | refine blk_drew ?_ | refine blk_alloc ?_ _)); refine blk_put (cs := #[.int .i64 0, .int .i64 0, .int .i64 0]) ?_ 0 _ rfl; (with_reducible repeat (first | refine blk_drewN ?_ _ | refine blk_drew ?_ | refine blk_alloc ?_ _)); exact BK163.out) : p := h
/-! ### impl_threadOk: function 33 -/
mutual
def impl_threadOk.l0 : Nat → List (S70) → Bool → Bool → List (S70) → Int → Int → Option (Bool)
  | 0, _, _, _, _, _, _ => none
  | k + 1, x0, x3, x4, x8, x9, x10 => if x10 < x9 then (if 0 ≤ x10 then (if x10 < (x8.length : Int) then (if ((rd_T70 x8 x10).f0) = 3 then (if x3 = true then (if x4 = true then (if ((rd_T70 x8 x10).f0) = 7 then (impl_threadOk.j1 k x0 x3 x4 true x8 x9 x10 ((rd_T70 x8 x10).f0) ((rd_T70 x8 x10).f1) ((rd_T70 x8 x10).f2)) else (if ((rd_T70 x8 x10).f0) = 9 then (impl_threadOk.j1 k x0 x3 x4 true x8 x9 x10 ((rd_T70 x8 x10).f0) ((rd_T70 x8 x10).f1) ((rd_T70 x8 x10).f2)) else (impl_threadOk.j1 k x0 x3 x4 false x8 x9 x10 ((rd_T70 x8 x10).f0) ((rd_T70 x8 x10).f1) ((rd_T70 x8 x10).f2)))) else (impl_threadOk.j1 k x0 x3 x4 (((rd_T70 x8 x10).f0) == 8) x8 x9 x10 ((rd_T70 x8 x10).f0) ((rd_T70 x8 x10).f1) ((rd_T70 x8 x10).f2))) else (impl_threadOk.j1 k x0 x3 x4 true x8 x9 x10 ((rd_T70 x8 x10).f0) ((rd_T70 x8 x10).f1) ((rd_T70 x8 x10).f2))) else (if x4 = true then (if ((rd_T70 x8 x10).f0) = 7 then (impl_threadOk.j1 k x0 x3 x4 true x8 x9 x10 ((rd_T70 x8 x10).f0) ((rd_T70 x8 x10).f1) ((rd_T70 x8 x10).f2)) else (if ((rd_T70 x8 x10).f0) = 9 then (impl_threadOk.j1 k x0 x3 x4 true x8 x9 x10 ((rd_T70 x8 x10).f0) ((rd_T70 x8 x10).f1) ((rd_T70 x8 x10).f2)) else (impl_threadOk.j1 k x0 x3 x4 false x8 x9 x10 ((rd_T70 x8 x10).f0) ((rd_T70 x8 x10).f1) ((rd_T70 x8 x10).f2)))) else (impl_threadOk.j1 k x0 x3 x4 (((rd_T70 x8 x10).f0) == 8) x8 x9 x10 ((rd_T70 x8 x10).f0) ((rd_T70 x8 x10).f1) ((rd_T70 x8 x10).f2)))) else (none)) else (none)) else (if x4 = true then (some false) else (some (decide ((x0.length : Int) ≤ 7))))
def impl_threadOk.j1 : Nat → List (S70) → Bool → Bool → Bool → List (S70) → Int → Int → Int → Int → Int → Option (Bool)
  | 0, _, _, _, _, _, _, _, _, _, _ => none
  | k + 1, x0, x3, x4, x7, x8, x9, x10, x00, x01, x02 => (impl_Do_formed.f k x00 x01 x02).bind fun t164 => (if t164 = true then (if x7 = true then (some false) else (if x3 = true then (if x00 = 7 then (impl_threadOk.l0 k x0 true true x8 x9 (wrap64 (x10 + 1))) else (if x4 = true then (impl_threadOk.l0 k x0 true (x00 != 8) x8 x9 (wrap64 (x10 + 1))) else (impl_threadOk.l0 k x0 true false x8 x9 (wrap64 (x10 + 1))))) else ((impl_Do_reads.f x00 x01 x02).bind fun t165 => (if x00 = 7 then (impl_threadOk.l0 k x0 t165 true x8 x9 (wrap64 (x10 + 1))) else (if x4 = true then (impl_threadOk.l0 k x0 t165 (x00 != 8) x8 x9 (wrap64 (x10 + 1))) else (impl_threadOk.l0 k x0 t165 false x8 x9 (wrap64 (x10 + 1)))))))) else (some false))
end
def impl_threadOk.f (k : Nat) (l0 : List (S70)) : Option (Bool) := impl_threadOk.l0 k l0 false false l0 (l0.length : Int) 0
set_option maxHeartbeats 8000000 in
set_option maxRecDepth 100000 in
theorem impl_threadOk.calls (k : Nat) (A0 : Option Addr) (c0 : Nat) (l0 : List (S70)) (r : Bool) (w : World) (hr0 : Kd.C k70 w A0 l0.length l0) (hc0 : l0.length ≤ c0) (h : impl_threadOk.f k l0 = some r) :
  Calls Try.prog 33 #[.slice A0 l0.length c0] w fun e w' => e = .returned (.bool r) ∧ Below w.heap.size w w' := by
 have hu70 := Try.underlying70
 have HR0 := am_ hr0
 have HC0 := am_ hc0
 clear hr0 hc0
 have HB := am_ (Below.refl w.heap.size w)
 have H : (impl_threadOk.l0 k l0 false false l0 (l0.length : Int) 0) = some r := h
 clear h
 have H' := am_ H
 clear H
 go_enter Try.func33, Try.ntmps33
 go_wp2
 go_loopg [3, 4, 10] k (fun kq v3 v4 v10 w' => ∃ (x3_1 : Bool) (x4_1 : Bool) (x10_1 : Int), v3 = .bool x3_1 ∧ v4 = .bool x4_1 ∧ v10 = .int .i64 x10_1 ∧ Aside0 (impl_threadOk.l0 kq l0 x3_1 x4_1 l0 (l0.length : Int) x10_1 = some r) ∧ Aside0 (kq ≤ k) ∧ Aside0 (Below w.heap.size w w'))
 case atStart => exact ⟨(false), (false), (0), z33_1, z33_1, z33_1, H', ⟨Nat.le_refl _⟩, ⟨z33_3⟩⟩
 case round =>
  clear H'
  obtain ⟨x3_1, x4_1, x10_1, rfl, rfl, rfl, HA, HK1, HB⟩ := hrel
  cases gk with
  | zero => exact absurd HA.out (by simp [impl_threadOk.l0])
  | succ k1 =>
   have H := HA.out
   clear HA
   simp only [impl_threadOk.l0] at H
   by_cases c2 : x10_1 < (l0.length : Int)
   ·rw [if_pos c2] at H
    have c2b0 : decide (x10_1 < (l0.length : Int)) = true := decide_eq_true c2
    clear c2
    by_cases c3 : 0 ≤ x10_1
    ·rw [if_pos c3] at H
     have c3b0 : decide (0 ≤ x10_1) = true := decide_eq_true c3
     clear c3
     by_cases c4 : x10_1 < (l0.length : Int)
     ·rw [if_pos c4] at H
      have c4b0 : decide (x10_1 < (l0.length : Int)) = true := decide_eq_true c4
      clear c4
      have HC5 := am_ H
      clear H
      have p162 : 0 ≤ (x10_1 : Int) := of_decide_eq_true (by first | (with_reducible assumption) | assumption)
      have q162 : x10_1 < (l0.length : Int) := of_decide_eq_true (by first | (with_reducible assumption) | assumption)
      obtain ⟨ad162, e162, hx162_0, hx162_1, hx162_2⟩ := at_T70 HR0.out x10_1 p162 q162
      cases e162
      replace hx162_0 := (HB.out.cell (World.block_lt_of_cell? w _ hx162_0)).trans hx162_0
      replace hx162_1 := (HB.out.cell (World.block_lt_of_cell? w _ hx162_1)).trans hx162_1
      replace hx162_2 := (HB.out.cell (World.block_lt_of_cell? w _ hx162_2)).trans hx162_2
      replace p162 := eq_true p162
      replace q162 := eq_true q162
      go_upto_region 5 with (first | ((with_reducible refine gate_dst (N := 6) rfl ?_); (try (refine gate_guard (by rfl) ?_; dsimp only)); refine box_event ?hg (N := 6) ?hd (cs := #[.int .i64 0, .int .i64 0, .int .i64 0]) (t := 70) ?hr ?_; (case hd => rfl); (case hg => rfl); (case hr => first | (go_simp; done) | (go_simp; rfl)); intro gb163 hg w6 hbox hb; have n0_ := am_ (below_step z33_3 hb); have n1_ := am_ (hbox); have n2_ := am_ (by rw [hg]; exact (below_size z33_3) : w.heap.size ≤ gb163); have n3_ := am_ (by rw [hg]; exact (below_size z33_3) : w.heap.size ≤ gb163); clear HB; have HB := n0_; have BK163 := n1_; have GW163 := n2_; have GE163 := n3_; clear n0_ n1_ n2_ n3_; clear hb hbox hg; have hcz7_0 := cf0 BK163.out; have hcz7_1 := cf1 BK163.out; have hcz7_2 := cf2 BK163.out; have hfz7_0 := blk_frozen BK163.out 0; have hfz7_1 := blk_frozen BK163.out 1; have hfz7_2 := blk_frozen BK163.out 2))
      (try simp only [Act.put, List.setIfInBounds_toArray, List.set_cons_zero, List.set_cons_succ])
      go_cut [7] (fun v7 wc => ∃ (kq : Nat) (x7_4 : Bool), v7 = .bool x7_4 ∧ Aside0 (impl_threadOk.j1 kq l0 x3_1 x4_1 x7_4 l0 (l0.length : Int) x10_1 ((rd_T70 l0 x10_1).f0) ((rd_T70 l0 x10_1).f1) ((rd_T70 l0 x10_1).f2) = some r) ∧ Aside0 (kq ≤ k1) ∧ Aside0 (wc.heap[gb163]? = some (.cells #[.int .i64 ((rd_T70 l0 x10_1).f0), .int .i64 ((rd_T70 l0 x10_1).f1), .int .i64 ((rd_T70 l0 x10_1).f2)] 70 (0, 0))) ∧ Aside0 (Below w.heap.size w wc))
      case first =>
       have H := HC5.out
       clear HC5
       by_cases c8 : ((rd_T70 l0 x10_1).f0) = 3
       ·rw [if_pos c8] at H
        have c8b0 : (((rd_T70 l0 x10_1).f0) == 3) = true := beq_iff_eq.mpr c8
        have c8b1 : (((rd_T70 l0 x10_1).f0) != 3) = false := bne_eq_false_iff_eq.mpr c8
        clear c8
        (first | rw [c8b0] | (simp only [i64_w, i32_w]; rw [c8b0]) | skip)
        by_cases c9 : x3_1 = true
        ·subst c9
         have H1 : (if x4_1 = true then (if ((rd_T70 l0 x10_1).f0) = 7 then (impl_threadOk.j1 k1 l0 true x4_1 true l0 (l0.length : Int) x10_1 ((rd_T70 l0 x10_1).f0) ((rd_T70 l0 x10_1).f1) ((rd_T70 l0 x10_1).f2)) else (if ((rd_T70 l0 x10_1).f0) = 9 then (impl_threadOk.j1 k1 l0 true x4_1 true l0 (l0.length : Int) x10_1 ((rd_T70 l0 x10_1).f0) ((rd_T70 l0 x10_1).f1) ((rd_T70 l0 x10_1).f2)) else (impl_threadOk.j1 k1 l0 true x4_1 false l0 (l0.length : Int) x10_1 ((rd_T70 l0 x10_1).f0) ((rd_T70 l0 x10_1).f1) ((rd_T70 l0 x10_1).f2)))) else (impl_threadOk.j1 k1 l0 true x4_1 (((rd_T70 l0 x10_1).f0) == 8) l0 (l0.length : Int) x10_1 ((rd_T70 l0 x10_1).f0) ((rd_T70 l0 x10_1).f1) ((rd_T70 l0 x10_1).f2))) = some r := by rw [if_pos rfl] at H; exact H
         clear H
         have H := H1
         clear H1
         by_cases c10 : x4_1 = true
         ·subst c10
          have H1 : (if ((rd_T70 l0 x10_1).f0) = 7 then (impl_threadOk.j1 k1 l0 true true true l0 (l0.length : Int) x10_1 ((rd_T70 l0 x10_1).f0) ((rd_T70 l0 x10_1).f1) ((rd_T70 l0 x10_1).f2)) else (if ((rd_T70 l0 x10_1).f0) = 9 then (impl_threadOk.j1 k1 l0 true true true l0 (l0.length : Int) x10_1 ((rd_T70 l0 x10_1).f0) ((rd_T70 l0 x10_1).f1) ((rd_T70 l0 x10_1).f2)) else (impl_threadOk.j1 k1 l0 true true false l0 (l0.length : Int) x10_1 ((rd_T70 l0 x10_1).f0) ((rd_T70 l0 x10_1).f1) ((rd_T70 l0 x10_1).f2)))) = some r := by rw [if_pos rfl] at H; exact H
          clear H
          have H := H1
          clear H1
          by_cases c11 : ((rd_T70 l0 x10_1).f0) = 7
          ·rw [if_pos c11] at H
           have c11b0 : (((rd_T70 l0 x10_1).f0) == 7) = true := beq_iff_eq.mpr c11
           have c11b1 : (((rd_T70 l0 x10_1).f0) != 7) = false := bne_eq_false_iff_eq.mpr c11
           clear c11
           have H' := am_ H
           clear H
           have hcz12_0 := cf0 BK163.out
           have hcz12_1 := cf1 BK163.out
           have hcz12_2 := cf2 BK163.out
           have hfz12_0 := blk_frozen BK163.out 0
           have hfz12_1 := blk_frozen BK163.out 1
           have hfz12_2 := blk_frozen BK163.out 2
           go_wp2
           go_meet
           case rel => exact ⟨_, (true), z33_1, H', ⟨by have := HK1.out; first | omega | exact Nat.le_refl _⟩, ⟨z33_5⟩, ⟨z33_4⟩⟩
          rw [if_neg c11] at H
          have c11b0 : (((rd_T70 l0 x10_1).f0) == 7) = false := beq_eq_false_iff_ne.mpr c11
          have c11b1 : (((rd_T70 l0 x10_1).f0) != 7) = true := bne_iff_ne.mpr c11
          by_cases c13 : ((rd_T70 l0 x10_1).f0) = 9
          ·rw [if_pos c13] at H
           have c13b0 : (((rd_T70 l0 x10_1).f0) == 9) = true := beq_iff_eq.mpr c13
           have c13b1 : (((rd_T70 l0 x10_1).f0) != 9) = false := bne_eq_false_iff_eq.mpr c13
           clear c13
           have H' := am_ H
           clear H
           have hcz14_0 := cf0 BK163.out
           have hcz14_1 := cf1 BK163.out
           have hcz14_2 := cf2 BK163.out
           have hfz14_0 := blk_frozen BK163.out 0
           have hfz14_1 := blk_frozen BK163.out 1
           have hfz14_2 := blk_frozen BK163.out 2
           go_wp2
           go_meet
           case rel => exact ⟨_, (true), z33_1, H', ⟨by have := HK1.out; first | omega | exact Nat.le_refl _⟩, ⟨z33_5⟩, ⟨z33_4⟩⟩
          rw [if_neg c13] at H
          have c13b0 : (((rd_T70 l0 x10_1).f0) == 9) = false := beq_eq_false_iff_ne.mpr c13
          have c13b1 : (((rd_T70 l0 x10_1).f0) != 9) = true := bne_iff_ne.mpr c13
          have H' := am_ H
          clear H
          have hcz15_0 := cf0 BK163.out
          have hcz15_1 := cf1 BK163.out
          have hcz15_2 := cf2 BK163.out
          have hfz15_0 := blk_frozen BK163.out 0
          have hfz15_1 := blk_frozen BK163.out 1
          have hfz15_2 := blk_frozen BK163.out 2
          go_wp2
          go_meet
          case rel => exact ⟨_, (false), z33_1, H', ⟨by have := HK1.out; first | omega | exact Nat.le_refl _⟩, ⟨z33_5⟩, ⟨z33_4⟩⟩
         replace c10 := Bool.eq_false_iff.mpr c10
         subst c10
         have H1 : (impl_threadOk.j1 k1 l0 true false (((rd_T70 l0 x10_1).f0) == 8) l0 (l0.length : Int) x10_1 ((rd_T70 l0 x10_1).f0) ((rd_T70 l0 x10_1).f1) ((rd_T70 l0 x10_1).f2)) = some r := by rw [if_neg (show ¬ (false = true) by decide)] at H; exact H
         clear H
         have H := H1
         clear H1
         have H' := am_ H
         clear H
         have hcz16_0 := cf0 BK163.out
         have hcz16_1 := cf1 BK163.out
         have hcz16_2 := cf2 BK163.out
         have hfz16_0 := blk_frozen BK163.out 0
         have hfz16_1 := blk_frozen BK163.out 1
         have hfz16_2 := blk_frozen BK163.out 2
         go_wp2
         go_meet
         case rel => exact ⟨_, ((((rd_T70 l0 x10_1).f0) == 8)), z33_1, H', ⟨by have := HK1.out; first | omega | exact Nat.le_refl _⟩, ⟨z33_5⟩, ⟨z33_4⟩⟩
        replace c9 := Bool.eq_false_iff.mpr c9
        subst c9
        have H1 : (impl_threadOk.j1 k1 l0 false x4_1 true l0 (l0.length : Int) x10_1 ((rd_T70 l0 x10_1).f0) ((rd_T70 l0 x10_1).f1) ((rd_T70 l0 x10_1).f2)) = some r := by rw [if_neg (show ¬ (false = true) by decide)] at H; exact H
        clear H
        have H := H1
        clear H1
        have H' := am_ H
        clear H
        have hcz17_0 := cf0 BK163.out
        have hcz17_1 := cf1 BK163.out
        have hcz17_2 := cf2 BK163.out
        have hfz17_0 := blk_frozen BK163.out 0
        have hfz17_1 := blk_frozen BK163.out 1
        have hfz17_2 := blk_frozen BK163.out 2
        go_wp2
        go_meet
        case rel => exact ⟨_, (true), z33_1, H', ⟨by have := HK1.out; first | omega | exact Nat.le_refl _⟩, ⟨z33_5⟩, ⟨z33_4⟩⟩
       rw [if_neg c8] at H
       have c8b0 : (((rd_T70 l0 x10_1).f0) == 3) = false := beq_eq_false_iff_ne.mpr c8
       have c8b1 : (((rd_T70 l0 x10_1).f0) != 3) = true := bne_iff_ne.mpr c8
       (first | rw [c8b0] | (simp only [i64_w, i32_w]; rw [c8b0]) | skip)
       by_cases c18 : x4_1 = true
       ·subst c18
        have H1 : (if ((rd_T70 l0 x10_1).f0) = 7 then (impl_threadOk.j1 k1 l0 x3_1 true true l0 (l0.length : Int) x10_1 ((rd_T70 l0 x10_1).f0) ((rd_T70 l0 x10_1).f1) ((rd_T70 l0 x10_1).f2)) else (if ((rd_T70 l0 x10_1).f0) = 9 then (impl_threadOk.j1 k1 l0 x3_1 true true l0 (l0.length : Int) x10_1 ((rd_T70 l0 x10_1).f0) ((rd_T70 l0 x10_1).f1) ((rd_T70 l0 x10_1).f2)) else (impl_threadOk.j1 k1 l0 x3_1 true false l0 (l0.length : Int) x10_1 ((rd_T70 l0 x10_1).f0) ((rd_T70 l0 x10_1).f1) ((rd_T70 l0 x10_1).f2)))) = some r := by rw [if_pos rfl] at H; exact H
        clear H
        have H := H1
        clear H1
        by_cases c19 : ((rd_T70 l0 x10_1).f0) = 7
        ·rw [if_pos c19] at H
         have c19b0 : (((rd_T70 l0 x10_1).f0) == 7) = true := beq_iff_eq.mpr c19
         have c19b1 : (((rd_T70 l0 x10_1).f0) != 7) = false := bne_eq_false_iff_eq.mpr c19
         clear c19
         have H' := am_ H
         clear H
         have hcz20_0 := cf0 BK163.out
         have hcz20_1 := cf1 BK163.out
         have hcz20_2 := cf2 BK163.out
         have hfz20_0 := blk_frozen BK163.out 0
         have hfz20_1 := blk_frozen BK163.out 1
         have hfz20_2 := blk_frozen BK163.out 2
         go_wp2
         go_meet
         case rel => exact ⟨_, (true), z33_1, H', ⟨by have := HK1.out; first | omega | exact Nat.le_refl _⟩, ⟨z33_5⟩, ⟨z33_4⟩⟩
        rw [if_neg c19] at H
        have c19b0 : (((rd_T70 l0 x10_1).f0) == 7) = false := beq_eq_false_iff_ne.mpr c19
        have c19b1 : (((rd_T70 l0 x10_1).f0) != 7) = true := bne_iff_ne.mpr c19
        by_cases c21 : ((rd_T70 l0 x10_1).f0) = 9
        ·rw [if_pos c21] at H
         have c21b0 : (((rd_T70 l0 x10_1).f0) == 9) = true := beq_iff_eq.mpr c21
         have c21b1 : (((rd_T70 l0 x10_1).f0) != 9) = false := bne_eq_false_iff_eq.mpr c21
         clear c21
         have H' := am_ H
         clear H
         have hcz22_0 := cf0 BK163.out
         have hcz22_1 := cf1 BK163.out
         have hcz22_2 := cf2 BK163.out
         have hfz22_0 := blk_frozen BK163.out 0
         have hfz22_1 := blk_frozen BK163.out 1
         have hfz22_2 := blk_frozen BK163.out 2
         go_wp2
         go_meet
         case rel => exact ⟨_, (true), z33_1, H', ⟨by have := HK1.out; first | omega | exact Nat.le_refl _⟩, ⟨z33_5⟩, ⟨z33_4⟩⟩
        rw [if_neg c21] at H
        have c21b0 : (((rd_T70 l0 x10_1).f0) == 9) = false := beq_eq_false_iff_ne.mpr c21
        have c21b1 : (((rd_T70 l0 x10_1).f0) != 9) = true := bne_iff_ne.mpr c21
        have H' := am_ H
        clear H
        have hcz23_0 := cf0 BK163.out
        have hcz23_1 := cf1 BK163.out
        have hcz23_2 := cf2 BK163.out
        have hfz23_0 := blk_frozen BK163.out 0
        have hfz23_1 := blk_frozen BK163.out 1
        have hfz23_2 := blk_frozen BK163.out 2
        go_wp2
        go_meet
        case rel => exact ⟨_, (false), z33_1, H', ⟨by have := HK1.out; first | omega | exact Nat.le_refl _⟩, ⟨z33_5⟩, ⟨z33_4⟩⟩
       replace c18 := Bool.eq_false_iff.mpr c18
       subst c18
       have H1 : (impl_threadOk.j1 k1 l0 x3_1 false (((rd_T70 l0 x10_1).f0) == 8) l0 (l0.length : Int) x10_1 ((rd_T70 l0 x10_1).f0) ((rd_T70 l0 x10_1).f1) ((rd_T70 l0 x10_1).f2)) = some r := by rw [if_neg (show ¬ (false = true) by decide)] at H; exact H
       clear H
       have H := H1
       clear H1
       have H' := am_ H
       clear H
       have hcz24_0 := cf0 BK163.out
       have hcz24_1 := cf1 BK163.out
       have hcz24_2 := cf2 BK163.out
       have hfz24_0 := blk_frozen BK163.out 0
       have hfz24_1 := blk_frozen BK163.out 1
       have hfz24_2 := blk_frozen BK163.out 2
       go_wp2
       go_meet
       case rel => exact ⟨_, ((((rd_T70 l0 x10_1).f0) == 8)), z33_1, H', ⟨by have := HK1.out; first | omega | exact Nat.le_refl _⟩, ⟨z33_5⟩, ⟨z33_4⟩⟩
      case rest =>
       clear HC5
       obtain ⟨kq, x7_4, rfl, HA, HJ4, BK163, HB⟩ := hcut
       cases kq with
       | zero => exact absurd HA.out (by simp [impl_threadOk.j1])
       | succ kj4 =>
        have H := HA.out
        clear HA
        simp only [impl_threadOk.j1] at H
        replace H := Option.bind_eq_some_iff.mp H
        obtain ⟨t164, A250, H⟩ := H
        replace H : (if t164 = true then (if x7_4 = true then (some false) else (if x3_1 = true then (if ((rd_T70 l0 x10_1).f0) = 7 then (impl_threadOk.l0 kj4 l0 true true l0 (l0.length : Int) (wrap64 (x10_1 + 1))) else (if x4_1 = true then (impl_threadOk.l0 kj4 l0 true (((rd_T70 l0 x10_1).f0) != 8) l0 (l0.length : Int) (wrap64 (x10_1 + 1))) else (impl_threadOk.l0 kj4 l0 true false l0 (l0.length : Int) (wrap64 (x10_1 + 1))))) else ((impl_Do_reads.f ((rd_T70 l0 x10_1).f0) ((rd_T70 l0 x10_1).f1) ((rd_T70 l0 x10_1).f2)).bind fun t165 => (if ((rd_T70 l0 x10_1).f0) = 7 then (impl_threadOk.l0 kj4 l0 t165 true l0 (l0.length : Int) (wrap64 (x10_1 + 1))) else (if x4_1 = true then (impl_threadOk.l0 kj4 l0 t165 (((rd_T70 l0 x10_1).f0) != 8) l0 (l0.length : Int) (wrap64 (x10_1 + 1))) else (impl_threadOk.l0 kj4 l0 t165 false l0 (l0.length : Int) (wrap64 (x10_1 + 1)))))))) else (some false)) = some r := H
        have A25 := am_ A250
        clear A250
        by_cases c26 : t164 = true
        ·subst c26
         have H1 : (if x7_4 = true then (some false) else (if x3_1 = true then (if ((rd_T70 l0 x10_1).f0) = 7 then (impl_threadOk.l0 kj4 l0 true true l0 (l0.length : Int) (wrap64 (x10_1 + 1))) else (if x4_1 = true then (impl_threadOk.l0 kj4 l0 true (((rd_T70 l0 x10_1).f0) != 8) l0 (l0.length : Int) (wrap64 (x10_1 + 1))) else (impl_threadOk.l0 kj4 l0 true false l0 (l0.length : Int) (wrap64 (x10_1 + 1))))) else ((impl_Do_reads.f ((rd_T70 l0 x10_1).f0) ((rd_T70 l0 x10_1).f1) ((rd_T70 l0 x10_1).f2)).bind fun t165 => (if ((rd_T70 l0 x10_1).f0) = 7 then (impl_threadOk.l0 kj4 l0 t165 true l0 (l0.length : Int) (wrap64 (x10_1 + 1))) else (if x4_1 = true then (impl_threadOk.l0 kj4 l0 t165 (((rd_T70 l0 x10_1).f0) != 8) l0 (l0.length : Int) (wrap64 (x10_1 + 1))) else (impl_threadOk.l0 kj4 l0 t165 false l0 (l0.length : Int) (wrap64 (x10_1 + 1)))))))) = some r := by rw [if_pos rfl] at H; exact H
         clear H
         have H := H1
         clear H1
         by_cases c27 : x7_4 = true
         ·subst c27
          have H1 : (some false) = some r := by rw [if_pos rfl] at H; exact H
          clear H
          have H := H1
          clear H1
          obtain rfl := Option.some.inj H
          have hcz28_0 := cf0 BK163.out
          have hcz28_1 := cf1 BK163.out
          have hcz28_2 := cf2 BK163.out
          have hfz28_0 := blk_frozen BK163.out 0
          have hfz28_1 := blk_frozen BK163.out 1
          have hfz28_2 := blk_frozen BK163.out 2
          go_wp2_with (first | ((with_reducible refine gate_callee (f := 43) rfl ?_); refine goesL_ (some 44) rfl rfl Try.func43 (by kernel_rfl) rfl #[.agg #[.int .i64 ((rd_T70 l0 x10_1).f0), .int .i64 ((rd_T70 l0 x10_1).f1), .int .i64 ((rd_T70 l0 x10_1).f2)]] rfl (by (try simp only [List.map_toArray, List.map_cons, List.map_nil]); first | done | rfl | (simp only [List.length_drop, List.length_take]; rfl)) ?_; (with_reducible refine (impl_Do_formed.calls kj4 ((rd_T70 l0 x10_1).f0) ((rd_T70 l0 x10_1).f1) ((rd_T70 l0 x10_1).f2) true _ A25.out).mono ?_); rintro e w29 ⟨rfl, hb⟩; refine ⟨_, rfl, ?_⟩; replace BK163 := am_ (blk_below (bu BK163.out) hb); replace HB := am_ (below_step z33_4 hb); (try clear hb); (try clear hb2); (try clear hk); (try clear hi)))
          go_ret
          exact ⟨z33_2, z33_4⟩
         replace c27 := Bool.eq_false_iff.mpr c27
         subst c27
         have H1 : (if x3_1 = true then (if ((rd_T70 l0 x10_1).f0) = 7 then (impl_threadOk.l0 kj4 l0 true true l0 (l0.length : Int) (wrap64 (x10_1 + 1))) else (if x4_1 = true then (impl_threadOk.l0 kj4 l0 true (((rd_T70 l0 x10_1).f0) != 8) l0 (l0.length : Int) (wrap64 (x10_1 + 1))) else (impl_threadOk.l0 kj4 l0 true false l0 (l0.length : Int) (wrap64 (x10_1 + 1))))) else ((impl_Do_reads.f ((rd_T70 l0 x10_1).f0) ((rd_T70 l0 x10_1).f1) ((rd_T70 l0 x10_1).f2)).bind fun t165 => (if ((rd_T70 l0 x10_1).f0) = 7 then (impl_threadOk.l0 kj4 l0 t165 true l0 (l0.length : Int) (wrap64 (x10_1 + 1))) else (if x4_1 = true then (impl_threadOk.l0 kj4 l0 t165 (((rd_T70 l0 x10_1).f0) != 8) l0 (l0.length : Int) (wrap64 (x10_1 + 1))) else (impl_threadOk.l0 kj4 l0 t165 false l0 (l0.length : Int) (wrap64 (x10_1 + 1))))))) = some r := by rw [if_neg (show ¬ (false = true) by decide)] at H; exact H
         clear H
         have H := H1
         clear H1
         by_cases c30 : x3_1 = true
         ·subst c30
          have H1 : (if ((rd_T70 l0 x10_1).f0) = 7 then (impl_threadOk.l0 kj4 l0 true true l0 (l0.length : Int) (wrap64 (x10_1 + 1))) else (if x4_1 = true then (impl_threadOk.l0 kj4 l0 true (((rd_T70 l0 x10_1).f0) != 8) l0 (l0.length : Int) (wrap64 (x10_1 + 1))) else (impl_threadOk.l0 kj4 l0 true false l0 (l0.length : Int) (wrap64 (x10_1 + 1))))) = some r := by rw [if_pos rfl] at H; exact H
          clear H
          have H := H1
          clear H1
          by_cases c31 : ((rd_T70 l0 x10_1).f0) = 7
          ·rw [if_pos c31] at H
           have c31b0 : (((rd_T70 l0 x10_1).f0) == 7) = true := beq_iff_eq.mpr c31
           have c31b1 : (((rd_T70 l0 x10_1).f0) != 7) = false := bne_eq_false_iff_eq.mpr c31
           clear c31
           have H' := am_ H
           clear H
           have hcz32_0 := cf0 BK163.out
           have hcz32_1 := cf1 BK163.out
           have hcz32_2 := cf2 BK163.out
           have hfz32_0 := blk_frozen BK163.out 0
           have hfz32_1 := blk_frozen BK163.out 1
           have hfz32_2 := blk_frozen BK163.out 2
           go_wp2_with (first | ((with_reducible refine gate_callee (f := 43) rfl ?_); refine goesL_ (some 44) rfl rfl Try.func43 (by kernel_rfl) rfl #[.agg #[.int .i64 ((rd_T70 l0 x10_1).f0), .int .i64 ((rd_T70 l0 x10_1).f1), .int .i64 ((rd_T70 l0 x10_1).f2)]] rfl (by (try simp only [List.map_toArray, List.map_cons, List.map_nil]); first | done | rfl | (simp only [List.length_drop, List.length_take]; rfl)) ?_; (with_reducible refine (impl_Do_formed.calls kj4 ((rd_T70 l0 x10_1).f0) ((rd_T70 l0 x10_1).f1) ((rd_T70 l0 x10_1).f2) true _ A25.out).mono ?_); rintro e w33 ⟨rfl, hb⟩; refine ⟨_, rfl, ?_⟩; replace BK163 := am_ (blk_below (bu BK163.out) hb); replace HB := am_ (below_step z33_4 hb); (try clear hb); (try clear hb2); (try clear hk); (try clear hi); have hcz34_0 := cf0 BK163.out; have hcz34_1 := cf1 BK163.out; have hcz34_2 := cf2 BK163.out; have hfz34_0 := blk_frozen BK163.out 0; have hfz34_1 := blk_frozen BK163.out 1; have hfz34_2 := blk_frozen BK163.out 2))
           go_roundg kj4
           case measure => have := HK1.out; have := HJ4.out; omega
           case rel => exact ⟨(true), (true), (wrap64 (x10_1 + 1)), z33_1, z33_1, z33_1, H', ⟨by have := HK1.out; have := HJ4.out; omega⟩, ⟨z33_4⟩⟩
          rw [if_neg c31] at H
          have c31b0 : (((rd_T70 l0 x10_1).f0) == 7) = false := beq_eq_false_iff_ne.mpr c31
          have c31b1 : (((rd_T70 l0 x10_1).f0) != 7) = true := bne_iff_ne.mpr c31
          by_cases c35 : x4_1 = true
          ·subst c35
           have H1 : (impl_threadOk.l0 kj4 l0 true (((rd_T70 l0 x10_1).f0) != 8) l0 (l0.length : Int) (wrap64 (x10_1 + 1))) = some r := by rw [if_pos rfl] at H; exact H
           clear H
           have H := H1
           clear H1
           have H' := am_ H
           clear H
           have hcz36_0 := cf0 BK163.out
           have hcz36_1 := cf1 BK163.out
           have hcz36_2 := cf2 BK163.out
           have hfz36_0 := blk_frozen BK163.out 0
           have hfz36_1 := blk_frozen BK163.out 1
           have hfz36_2 := blk_frozen BK163.out 2
           go_wp2_with (first | ((with_reducible refine gate_callee (f := 43) rfl ?_); refine goesL_ (some 44) rfl rfl Try.func43 (by kernel_rfl) rfl #[.agg #[.int .i64 ((rd_T70 l0 x10_1).f0), .int .i64 ((rd_T70 l0 x10_1).f1), .int .i64 ((rd_T70 l0 x10_1).f2)]] rfl (by (try simp only [List.map_toArray, List.map_cons, List.map_nil]); first | done | rfl | (simp only [List.length_drop, List.length_take]; rfl)) ?_; (with_reducible refine (impl_Do_formed.calls kj4 ((rd_T70 l0 x10_1).f0) ((rd_T70 l0 x10_1).f1) ((rd_T70 l0 x10_1).f2) true _ A25.out).mono ?_); rintro e w37 ⟨rfl, hb⟩; refine ⟨_, rfl, ?_⟩; replace BK163 := am_ (blk_below (bu BK163.out) hb); replace HB := am_ (below_step z33_4 hb); (try clear hb); (try clear hb2); (try clear hk); (try clear hi); have hcz38_0 := cf0 BK163.out; have hcz38_1 := cf1 BK163.out; have hcz38_2 := cf2 BK163.out; have hfz38_0 := blk_frozen BK163.out 0; have hfz38_1 := blk_frozen BK163.out 1; have hfz38_2 := blk_frozen BK163.out 2))
           go_roundg kj4
           case measure => have := HK1.out; have := HJ4.out; omega
           case rel => exact ⟨(true), ((((rd_T70 l0 x10_1).f0) != 8)), (wrap64 (x10_1 + 1)), z33_1, z33_1, z33_1, H', ⟨by have := HK1.out; have := HJ4.out; omega⟩, ⟨z33_4⟩⟩
          replace c35 := Bool.eq_false_iff.mpr c35
          subst c35
          have H1 : (impl_threadOk.l0 kj4 l0 true false l0 (l0.length : Int) (wrap64 (x10_1 + 1))) = some r := by rw [if_neg (show ¬ (false = true) by decide)] at H; exact H
          clear H
          have H := H1
          clear H1
          have H' := am_ H
          clear H
          have hcz39_0 := cf0 BK163.out
          have hcz39_1 := cf1 BK163.out
          have hcz39_2 := cf2 BK163.out
          have hfz39_0 := blk_frozen BK163.out 0
          have hfz39_1 := blk_frozen BK163.out 1
          have hfz39_2 := blk_frozen BK163.out 2
          go_wp2_with (first | ((with_reducible refine gate_callee (f := 43) rfl ?_); refine goesL_ (some 44) rfl rfl Try.func43 (by kernel_rfl) rfl #[.agg #[.int .i64 ((rd_T70 l0 x10_1).f0), .int .i64 ((rd_T70 l0 x10_1).f1), .int .i64 ((rd_T70 l0 x10_1).f2)]] rfl (by (try simp only [List.map_toArray, List.map_cons, List.map_nil]); first | done | rfl | (simp only [List.length_drop, List.length_take]; rfl)) ?_; (with_reducible refine (impl_Do_formed.calls kj4 ((rd_T70 l0 x10_1).f0) ((rd_T70 l0 x10_1).f1) ((rd_T70 l0 x10_1).f2) true _ A25.out).mono ?_); rintro e w40 ⟨rfl, hb⟩; refine ⟨_, rfl, ?_⟩; replace BK163 := am_ (blk_below (bu BK163.out) hb); replace HB := am_ (below_step z33_4 hb); (try clear hb); (try clear hb2); (try clear hk); (try clear hi); have hcz41_0 := cf0 BK163.out; have hcz41_1 := cf1 BK163.out; have hcz41_2 := cf2 BK163.out; have hfz41_0 := blk_frozen BK163.out 0; have hfz41_1 := blk_frozen BK163.out 1; have hfz41_2 := blk_frozen BK163.out 2))
          go_roundg kj4
          case measure => have := HK1.out; have := HJ4.out; omega
          case rel => exact ⟨(true), (false), (wrap64 (x10_1 + 1)), z33_1, z33_1, z33_1, H', ⟨by have := HK1.out; have := HJ4.out; omega⟩, ⟨z33_4⟩⟩
         replace c30 := Bool.eq_false_iff.mpr c30
         subst c30
         have H1 : ((impl_Do_reads.f ((rd_T70 l0 x10_1).f0) ((rd_T70 l0 x10_1).f1) ((rd_T70 l0 x10_1).f2)).bind fun t165 => (if ((rd_T70 l0 x10_1).f0) = 7 then (impl_threadOk.l0 kj4 l0 t165 true l0 (l0.length : Int) (wrap64 (x10_1 + 1))) else (if x4_1 = true then (impl_threadOk.l0 kj4 l0 t165 (((rd_T70 l0 x10_1).f0) != 8) l0 (l0.length : Int) (wrap64 (x10_1 + 1))) else (impl_threadOk.l0 kj4 l0 t165 false l0 (l0.length : Int) (wrap64 (x10_1 + 1)))))) = some r := by rw [if_neg (show ¬ (false = true) by decide)] at H; exact H
         clear H
         have H := H1
         clear H1
         replace H := Option.bind_eq_some_iff.mp H
         obtain ⟨t165, A420, H⟩ := H
         replace H : (if ((rd_T70 l0 x10_1).f0) = 7 then (impl_threadOk.l0 kj4 l0 t165 true l0 (l0.length : Int) (wrap64 (x10_1 + 1))) else (if x4_1 = true then (impl_threadOk.l0 kj4 l0 t165 (((rd_T70 l0 x10_1).f0) != 8) l0 (l0.length : Int) (wrap64 (x10_1 + 1))) else (impl_threadOk.l0 kj4 l0 t165 false l0 (l0.length : Int) (wrap64 (x10_1 + 1))))) = some r := H
         have A42 := am_ A420
         clear A420
         by_cases c43 : ((rd_T70 l0 x10_1).f0) = 7
         ·rw [if_pos c43] at H
          have c43b0 : (((rd_T70 l0 x10_1).f0) == 7) = true := beq_iff_eq.mpr c43
          have c43b1 : (((rd_T70 l0 x10_1).f0) != 7) = false := bne_eq_false_iff_eq.mpr c43
          clear c43
          have H' := am_ H
          clear H
          have hcz44_0 := cf0 BK163.out
          have hcz44_1 := cf1 BK163.out
          have hcz44_2 := cf2 BK163.out
          have hfz44_0 := blk_frozen BK163.out 0
          have hfz44_1 := blk_frozen BK163.out 1
          have hfz44_2 := blk_frozen BK163.out 2
          go_wp2_with (first | ((with_reducible refine gate_callee (f := 43) rfl ?_); refine goesL_ (some 44) rfl rfl Try.func43 (by kernel_rfl) rfl #[.agg #[.int .i64 ((rd_T70 l0 x10_1).f0), .int .i64 ((rd_T70 l0 x10_1).f1), .int .i64 ((rd_T70 l0 x10_1).f2)]] rfl (by (try simp only [List.map_toArray, List.map_cons, List.map_nil]); first | done | rfl | (simp only [List.length_drop, List.length_take]; rfl)) ?_; (with_reducible refine (impl_Do_formed.calls kj4 ((rd_T70 l0 x10_1).f0) ((rd_T70 l0 x10_1).f1) ((rd_T70 l0 x10_1).f2) true _ A25.out).mono ?_); rintro e w45 ⟨rfl, hb⟩; refine ⟨_, rfl, ?_⟩; replace BK163 := am_ (blk_below (bu BK163.out) hb); replace HB := am_ (below_step z33_4 hb); (try clear hb); (try clear hb2); (try clear hk); (try clear hi); have hcz46_0 := cf0 BK163.out; have hcz46_1 := cf1 BK163.out; have hcz46_2 := cf2 BK163.out; have hfz46_0 := blk_frozen BK163.out 0; have hfz46_1 := blk_frozen BK163.out 1; have hfz46_2 := blk_frozen BK163.out 2) | (go_at_call 31; (with_reducible refine (impl_Do_reads.calls ((rd_T70 l0 x10_1).f0) ((rd_T70 l0 x10_1).f1) ((rd_T70 l0 x10_1).f2) t165 _ A42.out).mono ?_); rintro e w47 ⟨rfl, hb⟩; replace BK163 := am_ (blk_below (bu BK163.out) hb); replace HB := am_ (below_step z33_4 hb); (try clear hb); (try clear hb2); (try clear hk); (try clear hi); have hcz48_0 := cf0 BK163.out; have hcz48_1 := cf1 BK163.out; have hcz48_2 := cf2 BK163.out; have hfz48_0 := blk_frozen BK163.out 0; have hfz48_1 := blk_frozen BK163.out 1; have hfz48_2 := blk_frozen BK163.out 2))
          go_roundg kj4
          case measure => have := HK1.out; have := HJ4.out; omega
          case rel => exact ⟨(t165), (true), (wrap64 (x10_1 + 1)), z33_1, z33_1, z33_1, H', ⟨by have := HK1.out; have := HJ4.out; omega⟩, ⟨z33_4⟩⟩
         rw [if_neg c43] at H
         have c43b0 : (((rd_T70 l0 x10_1).f0) == 7) = false := beq_eq_false_iff_ne.mpr c43
         have c43b1 : (((rd_T70 l0 x10_1).f0) != 7) = true := bne_iff_ne.mpr c43
         by_cases c49 : x4_1 = true
         ·subst c49
          have H1 : (impl_threadOk.l0 kj4 l0 t165 (((rd_T70 l0 x10_1).f0) != 8) l0 (l0.length : Int) (wrap64 (x10_1 + 1))) = some r := by rw [if_pos rfl] at H; exact H
          clear H
          have H := H1
          clear H1
          have H' := am_ H
          clear H
          have hcz50_0 := cf0 BK163.out
          have hcz50_1 := cf1 BK163.out
          have hcz50_2 := cf2 BK163.out
          have hfz50_0 := blk_frozen BK163.out 0
          have hfz50_1 := blk_frozen BK163.out 1
          have hfz50_2 := blk_frozen BK163.out 2
          go_wp2_with (first | ((with_reducible refine gate_callee (f := 43) rfl ?_); refine goesL_ (some 44) rfl rfl Try.func43 (by kernel_rfl) rfl #[.agg #[.int .i64 ((rd_T70 l0 x10_1).f0), .int .i64 ((rd_T70 l0 x10_1).f1), .int .i64 ((rd_T70 l0 x10_1).f2)]] rfl (by (try simp only [List.map_toArray, List.map_cons, List.map_nil]); first | done | rfl | (simp only [List.length_drop, List.length_take]; rfl)) ?_; (with_reducible refine (impl_Do_formed.calls kj4 ((rd_T70 l0 x10_1).f0) ((rd_T70 l0 x10_1).f1) ((rd_T70 l0 x10_1).f2) true _ A25.out).mono ?_); rintro e w51 ⟨rfl, hb⟩; refine ⟨_, rfl, ?_⟩; replace BK163 := am_ (blk_below (bu BK163.out) hb); replace HB := am_ (below_step z33_4 hb); (try clear hb); (try clear hb2); (try clear hk); (try clear hi); have hcz52_0 := cf0 BK163.out; have hcz52_1 := cf1 BK163.out; have hcz52_2 := cf2 BK163.out; have hfz52_0 := blk_frozen BK163.out 0; have hfz52_1 := blk_frozen BK163.out 1; have hfz52_2 := blk_frozen BK163.out 2) | (go_at_call 31; (with_reducible refine (impl_Do_reads.calls ((rd_T70 l0 x10_1).f0) ((rd_T70 l0 x10_1).f1) ((rd_T70 l0 x10_1).f2) t165 _ A42.out).mono ?_); rintro e w53 ⟨rfl, hb⟩; replace BK163 := am_ (blk_below (bu BK163.out) hb); replace HB := am_ (below_step z33_4 hb); (try clear hb); (try clear hb2); (try clear hk); (try clear hi); have hcz54_0 := cf0 BK163.out; have hcz54_1 := cf1 BK163.out; have hcz54_2 := cf2 BK163.out; have hfz54_0 := blk_frozen BK163.out 0; have hfz54_1 := blk_frozen BK163.out 1; have hfz54_2 := blk_frozen BK163.out 2))
          go_roundg kj4
          case measure => have := HK1.out; have := HJ4.out; omega
          case rel => exact ⟨(t165), ((((rd_T70 l0 x10_1).f0) != 8)), (wrap64 (x10_1 + 1)), z33_1, z33_1, z33_1, H', ⟨by have := HK1.out; have := HJ4.out; omega⟩, ⟨z33_4⟩⟩
         replace c49 := Bool.eq_false_iff.mpr c49
         subst c49
         have H1 : (impl_threadOk.l0 kj4 l0 t165 false l0 (l0.length : Int) (wrap64 (x10_1 + 1))) = some r := by rw [if_neg (show ¬ (false = true) by decide)] at H; exact H
         clear H
         have H := H1
         clear H1
         have H' := am_ H
         clear H
         have hcz55_0 := cf0 BK163.out
         have hcz55_1 := cf1 BK163.out
         have hcz55_2 := cf2 BK163.out
         have hfz55_0 := blk_frozen BK163.out 0
         have hfz55_1 := blk_frozen BK163.out 1
         have hfz55_2 := blk_frozen BK163.out 2
         go_wp2_with (first | ((with_reducible refine gate_callee (f := 43) rfl ?_); refine goesL_ (some 44) rfl rfl Try.func43 (by kernel_rfl) rfl #[.agg #[.int .i64 ((rd_T70 l0 x10_1).f0), .int .i64 ((rd_T70 l0 x10_1).f1), .int .i64 ((rd_T70 l0 x10_1).f2)]] rfl (by (try simp only [List.map_toArray, List.map_cons, List.map_nil]); first | done | rfl | (simp only [List.length_drop, List.length_take]; rfl)) ?_; (with_reducible refine (impl_Do_formed.calls kj4 ((rd_T70 l0 x10_1).f0) ((rd_T70 l0 x10_1).f1) ((rd_T70 l0 x10_1).f2) true _ A25.out).mono ?_); rintro e w56 ⟨rfl, hb⟩; refine ⟨_, rfl, ?_⟩; replace BK163 := am_ (blk_below (bu BK163.out) hb); replace HB := am_ (below_step z33_4 hb); (try clear hb); (try clear hb2); (try clear hk); (try clear hi); have hcz57_0 := cf0 BK163.out; have hcz57_1 := cf1 BK163.out; have hcz57_2 := cf2 BK163.out; have hfz57_0 := blk_frozen BK163.out 0; have hfz57_1 := blk_frozen BK163.out 1; have hfz57_2 := blk_frozen BK163.out 2) | (go_at_call 31; (with_reducible refine (impl_Do_reads.calls ((rd_T70 l0 x10_1).f0) ((rd_T70 l0 x10_1).f1) ((rd_T70 l0 x10_1).f2) t165 _ A42.out).mono ?_); rintro e w58 ⟨rfl, hb⟩; replace BK163 := am_ (blk_below (bu BK163.out) hb); replace HB := am_ (below_step z33_4 hb); (try clear hb); (try clear hb2); (try clear hk); (try clear hi); have hcz59_0 := cf0 BK163.out; have hcz59_1 := cf1 BK163.out; have hcz59_2 := cf2 BK163.out; have hfz59_0 := blk_frozen BK163.out 0; have hfz59_1 := blk_frozen BK163.out 1; have hfz59_2 := blk_frozen BK163.out 2))
         go_roundg kj4
         case measure => have := HK1.out; have := HJ4.out; omega
         case rel => exact ⟨(t165), (false), (wrap64 (x10_1 + 1)), z33_1, z33_1, z33_1, H', ⟨by have := HK1.out; have := HJ4.out; omega⟩, ⟨z33_4⟩⟩
        replace c26 := Bool.eq_false_iff.mpr c26
        subst c26
        have H1 : (some false) = some r := by rw [if_neg (show ¬ (false = true) by decide)] at H; exact H
        clear H
        have H := H1
        clear H1
        obtain rfl := Option.some.inj H
        have hcz60_0 := cf0 BK163.out
        have hcz60_1 := cf1 BK163.out
        have hcz60_2 := cf2 BK163.out
        have hfz60_0 := blk_frozen BK163.out 0
        have hfz60_1 := blk_frozen BK163.out 1
        have hfz60_2 := blk_frozen BK163.out 2
        go_wp2_with (first | ((with_reducible refine gate_callee (f := 43) rfl ?_); refine goesL_ (some 44) rfl rfl Try.func43 (by kernel_rfl) rfl #[.agg #[.int .i64 ((rd_T70 l0 x10_1).f0), .int .i64 ((rd_T70 l0 x10_1).f1), .int .i64 ((rd_T70 l0 x10_1).f2)]] rfl (by (try simp only [List.map_toArray, List.map_cons, List.map_nil]); first | done | rfl | (simp only [List.length_drop, List.length_take]; rfl)) ?_; (with_reducible refine (impl_Do_formed.calls kj4 ((rd_T70 l0 x10_1).f0) ((rd_T70 l0 x10_1).f1) ((rd_T70 l0 x10_1).f2) false _ A25.out).mono ?_); rintro e w61 ⟨rfl, hb⟩; refine ⟨_, rfl, ?_⟩; replace BK163 := am_ (blk_below (bu BK163.out) hb); replace HB := am_ (below_step z33_4 hb); (try clear hb); (try clear hb2); (try clear hk); (try clear hi)))
        go_ret
        exact ⟨z33_2, z33_4⟩
     rw [if_neg c4] at H
     exact absurd H (by simp)
    rw [if_neg c3] at H
    exact absurd H (by simp)
   rw [if_neg c2] at H
   have c2b0 : decide (x10_1 < (l0.length : Int)) = false := decide_eq_false c2
   clear c2
   by_cases c62 : x4_1 = true
   ·subst c62
    have H1 : (some false) = some r := by rw [if_pos rfl] at H; exact H
    clear H
    have H := H1
    clear H1
    obtain rfl := Option.some.inj H
    go_wp2
    go_ret
    exact ⟨z33_2, z33_3⟩
   replace c62 := Bool.eq_false_iff.mpr c62
   subst c62
   have H1 : (some (decide ((l0.length : Int) ≤ 7))) = some r := by rw [if_neg (show ¬ (false = true) by decide)] at H; exact H
   clear H
   have H := H1
   clear H1
   obtain rfl := Option.some.inj H
   go_wp2
   go_ret
   exact ⟨z33_2, z33_3⟩

end Go.Proofs.Ytmkchdlkpbnldaa.PB

namespace Go.Proofs.Ytmkchdlkpbnldaa.PB
open Go.RowKit Go.Proofs.YtmkchdlkpbnldaaW.PrintWords Go.Proofs.YtmkchdlkpbnldaaW.PrintLast Go.Proofs.YtmkchdlkpbnldaaW.PrintMore
attribute [local go_sem] max2_int min2_int max_two min_two max_three min_three max_four min_four   -- for this text's walks alone
open Go.Proofs.YtmkchdlkpbnldaaMine
set_option linter.unusedVariables false
set_option linter.unusedSimpArgs false

theorem z19_1 {p : Prop} (h : p := by first | rfl | (simp; done) | (simp [*]; done)) : p := h
theorem z19_2 {p : Prop} (h : p := by first | (with_reducible assumption) | assumption) : p := h
theorem z19_3 {p : Prop} (h : p := by first | rfl | (simp [errW_none, errW_some] <;> rfl) | (simp [*, errW_none, errW_some] <;> rfl)) : p := h
theorem z19_4 {p : Prop} (h : p := by repeat (first | (with_reducible first | exact HB.out | apply below_alloc | apply pw_below_drewN | apply below_drew1) | exact HB.out)) : p := h
theorem z19_5 {p : Prop} (h : p := by repeat (first | (with_reducible first | exact HB.out | apply below_alloc | apply pw_below_drewN | apply below_drew1 | refine below_set ?_ GE166.out) | exact HB.out)) : p := h
theorem z19_6 {p : Prop} (h : p := by repeat (first | (with_reducible first | exact HB.out | apply below_alloc | apply pw_below_drewN | apply below_drew1 | refine below_set ?_ GE166.out | refine below_set ?_ GE170.out) | exact HB.out)) : p := h
theorem z19_7 {p : Prop} (h : p := by (with_reducible repeat (first | refine blk_drewN ?_ _ | refine blk_drew ?_ | refine blk_alloc ?_ _)); refine blk_far ?_ NB166_170.out _; (with_reducible repeat (first | refine blk_drewN ?_ _ | refine blk_drew ?_ | refine blk_alloc ?_ _)); refine blk_far ?_ NB166_170.out _; (with_reducible repeat (first | refine blk_drewN ?_ _ | refine blk_drew ?_ | refine blk_alloc ?_ _)); refine blk_far ?_ NB166_170.out _; (with_reducible repeat (first | refine blk_drewN ?_ _ | refine blk_drew ?_ | refine blk_alloc ?_ _)); exact BK166.out) : p := h
theorem z19_8 {p : Prop} (h : p := by (with_reducible repeat (first | refine blk_drewN ?_ _ | refine blk_drew ?_ | refine blk_alloc ?_ _)); refine blk_put (cs := #[.int .i64 ((rd_T70 (rd_L7 l0_0 x16_1) x29_2).f0), .int .i64 ((rd_T70 (rd_L7 l0_0 x16_1) x29_2).f1), .int .i64 0]) ?_ 2 _ rfl; (with_reducible repeat (first | refine blk_drewN ?_ _ | refine blk_drew ?_ | refine blk_alloc ?_ _)); refine blk_put (cs := #[.int .i64 ((rd_T70 (rd_L7 l0_0 x16_1) x29_2).f0), .int .i64 0, .int .i64 0]) ?_ 1 _ rfl; (with_reducible repeat (first | refine blk_drewN ?_ _ | refine blk_drew ?_ | refine blk_alloc ?_ _)); refine blk_put (cs := #[.int .i64 0, .int .i64 0, .int .i64 0]) ?_ 0 _ rfl; (with_reducible repeat (first | refine blk_drewN ?_ _ | refine blk_drew ?_ | refine blk_alloc ?_ _)); exact BK170.out) : p := h
/-! ### impl_ProgOk: function 19 -/
mutual
def impl_ProgOk.l0 : Nat → Int → Int → List (List (S70)) → Int → Int → Option (Bool)
  | 0, _, _, _, _, _ => none
  | k + 1, x3, x4, x14, x15, x16 => if x16 < x15 then (if 0 ≤ x16 then (if x16 < (x14.length : Int) then ((impl_threadOk.f k (rd_L7 x14 x16)).bind fun t168 => (if t168 = true then (impl_ProgOk.l1 k (wrap64 (x3 + ((rd_L7 x14 x16).length : Int))) x4 x14 x15 x16 (rd_L7 x14 x16) ((rd_L7 x14 x16).length : Int) 0) else (some false))) else (none)) else (none)) else (if x3 ≤ 14 then (some (decide (x4 ≤ 6))) else (some false))
def impl_ProgOk.l1 : Nat → Int → Int → List (List (S70)) → Int → Int → List (S70) → Int → Int → Option (Bool)
  | 0, _, _, _, _, _, _, _, _ => none
  | k + 1, x3, x4, x14, x15, x16, x27, x28, x29 => if x29 < x28 then (if 0 ≤ x29 then (if x29 < (x27.length : Int) then ((impl_Do_uses.f ((rd_T70 x27 x29).f0) ((rd_T70 x27 x29).f1) ((rd_T70 x27 x29).f2)).bind fun t171 => (if t171 = true then (impl_ProgOk.l1 k x3 (wrap64 (x4 + 1)) x14 x15 x16 x27 x28 (wrap64 (x29 + 1))) else (impl_ProgOk.l1 k x3 x4 x14 x15 x16 x27 x28 (wrap64 (x29 + 1))))) else (none)) else (none)) else (impl_ProgOk.l0 k x3 x4 x14 x15 (wrap64 (x16 + 1)))
end
def impl_ProgOk.f (k : Nat) (l0_0 : List (List (S70))) : Option (Bool) := if (l0_0.length : Int) > 3 then (some false) else (impl_ProgOk.l0 k 0 0 l0_0 (l0_0.length : Int) 0)
set_option maxHeartbeats 8000000 in
set_option maxRecDepth 100000 in
theorem impl_ProgOk.calls (k : Nat) (A0_0 : Option Addr) (c0_0 : Nat) (l0_0 : List (List (S70))) (r : Bool) (w : World) (hr0_0 : Kd.C (Kd.slice 70 k70) w A0_0 l0_0.length l0_0) (hc0_0 : l0_0.length ≤ c0_0) (h : impl_ProgOk.f k l0_0 = some r) :
  Calls Try.prog 19 #[.agg #[.slice A0_0 l0_0.length c0_0]] w fun e w' => e = .returned (.bool r) ∧ Below w.heap.size w w' := by
 have hu32 := Try.underlying32
 have hu70 := Try.underlying70
 have HR0_0 := am_ hr0_0
 have HC0_0 := am_ hc0_0
 clear hr0_0 hc0_0
 have HB := am_ (Below.refl w.heap.size w)
 have H : (if (l0_0.length : Int) > 3 then (some false) else (impl_ProgOk.l0 k 0 0 l0_0 (l0_0.length : Int) 0)) = some r := h
 clear h
 by_cases c2 : (l0_0.length : Int) > 3
 ·rw [if_pos c2] at H
  have c2b0 : decide (3 < (l0_0.length : Int)) = true := decide_eq_true c2
  have c2b1 : decide (3 < l0_0.length) = true := decide_eq_true (by omega)
  clear c2
  obtain rfl := Option.some.inj H
  go_enter Try.func19, Try.ntmps19
  go_wp2_with (first | ((with_reducible refine gate_dst (N := 1) rfl ?_); refine box_event ?hg (N := 1) ?hd (cs := #[.slice A0_0 l0_0.length c0_0]) (t := 32) ?hr ?_; (case hd => rfl); (case hg => rfl); (case hr => first | (go_simp; done) | (go_simp; rfl)); intro gb166 hg w3 hbox hb; have n0_ := am_ (below_step z19_4 hb); have n1_ := am_ (hbox); have n2_ := am_ (by rw [hg]; exact (below_size z19_4) : w.heap.size ≤ gb166); have n3_ := am_ (by rw [hg]; exact (below_size z19_4) : w.heap.size ≤ gb166); clear HB; have HB := n0_; have BK166 := n1_; have GW166 := n2_; have GE166 := n3_; clear n0_ n1_ n2_ n3_; clear hb hbox hg; have hcz4_0 := cf0 BK166.out; have hfz4_0 := blk_frozen BK166.out 0))
  go_ret
  exact ⟨z19_3, z19_5⟩
 rw [if_neg c2] at H
 have c2b0 : decide (3 < (l0_0.length : Int)) = false := decide_eq_false c2
 have c2b1 : decide (3 < l0_0.length) = false := decide_eq_false (by omega)
 clear c2
 have H' := am_ H
 clear H
 go_enter Try.func19, Try.ntmps19
 go_wp2_with (first | ((with_reducible refine gate_dst (N := 1) rfl ?_); refine box_event ?hg (N := 1) ?hd (cs := #[.slice A0_0 l0_0.length c0_0]) (t := 32) ?hr ?_; (case hd => rfl); (case hg => rfl); (case hr => first | (go_simp; done) | (go_simp; rfl)); intro gb166 hg w5 hbox hb; have n0_ := am_ (below_step z19_4 hb); have n1_ := am_ (hbox); have n2_ := am_ (by rw [hg]; exact (below_size z19_4) : w.heap.size ≤ gb166); have n3_ := am_ (by rw [hg]; exact (below_size z19_4) : w.heap.size ≤ gb166); clear HB; have HB := n0_; have BK166 := n1_; have GW166 := n2_; have GE166 := n3_; clear n0_ n1_ n2_ n3_; clear hb hbox hg; have hcz6_0 := cf0 BK166.out; have hfz6_0 := blk_frozen BK166.out 0))
 go_loopg [3, 4, 16] k (fun kq v3 v4 v16 w' => ∃ (x3_1 : Int) (x4_1 : Int) (x16_1 : Int), v3 = .int .i64 x3_1 ∧ v4 = .int .i64 x4_1 ∧ v16 = .int .i64 x16_1 ∧ Aside0 (impl_ProgOk.l0 kq x3_1 x4_1 l0_0 (l0_0.length : Int) x16_1 = some r) ∧ Aside0 (kq ≤ k) ∧ Aside0 (w'.heap[gb166]? = some (.cells #[(.slice A0_0 l0_0.length c0_0)] 32 (0, 0))) ∧ Aside0 (Below w.heap.size w w'))
 case atStart => exact ⟨(0), (0), (0), z19_1, z19_1, z19_1, H', ⟨Nat.le_refl _⟩, ⟨bu BK166.out⟩, ⟨z19_5⟩⟩
 case round =>
  clear H'
  obtain ⟨x3_1, x4_1, x16_1, rfl, rfl, rfl, HA, HK1, BK166, HB⟩ := hrel
  cases gk with
  | zero => exact absurd HA.out (by simp [impl_ProgOk.l0])
  | succ k1 =>
   have H := HA.out
   clear HA
   simp only [impl_ProgOk.l0] at H
   by_cases c7 : x16_1 < (l0_0.length : Int)
   ·rw [if_pos c7] at H
    have c7b0 : decide (x16_1 < (l0_0.length : Int)) = true := decide_eq_true c7
    clear c7
    by_cases c8 : 0 ≤ x16_1
    ·rw [if_pos c8] at H
     have c8b0 : decide (0 ≤ x16_1) = true := decide_eq_true c8
     clear c8
     by_cases c9 : x16_1 < (l0_0.length : Int)
     ·rw [if_pos c9] at H
      have c9b0 : decide (x16_1 < (l0_0.length : Int)) = true := decide_eq_true c9
      clear c9
      replace H := Option.bind_eq_some_iff.mp H
      obtain ⟨t168, A100, H⟩ := H
      replace H : (if t168 = true then (impl_ProgOk.l1 k1 (wrap64 (x3_1 + ((rd_L7 l0_0 x16_1).length : Int))) x4_1 l0_0 (l0_0.length : Int) x16_1 (rd_L7 l0_0 x16_1) ((rd_L7 l0_0 x16_1).length : Int) 0) else (some false)) = some r := H
      have A10 := am_ A100
      clear A100
      by_cases c11 : t168 = true
      ·subst c11
       have H1 : (impl_ProgOk.l1 k1 (wrap64 (x3_1 + ((rd_L7 l0_0 x16_1).length : Int))) x4_1 l0_0 (l0_0.length : Int) x16_1 (rd_L7 l0_0 x16_1) ((rd_L7 l0_0 x16_1).length : Int) 0) = some r := by rw [if_pos rfl] at H; exact H
       clear H
       have H := H1
       clear H1
       have H' := am_ H
       clear H
       have p167 : 0 ≤ (x16_1 : Int) := of_decide_eq_true z19_2
       have q167 : x16_1 < (l0_0.length : Int) := of_decide_eq_true z19_2
       obtain ⟨ad167, A167_0, c167_0, e167, hx167_0, hl167_0, hi167_0⟩ := at_L7 HR0_0.out x16_1 p167 q167
       cases e167
       replace hx167_0 := (HB.out.cell (World.block_lt_of_cell? w _ hx167_0)).trans hx167_0
       have HR167_0 := am_ hi167_0
       have HC167_0 := am_ hl167_0
       clear hi167_0 hl167_0
       replace p167 := eq_true p167
       replace q167 := eq_true q167
       go_wp2_with (first | ((with_reducible refine gate_callee (f := 33) rfl ?_); refine goesL_ (some 21) rfl rfl Try.func33 (by kernel_rfl) rfl #[.slice A167_0 (rd_L7 l0_0 x16_1).length c167_0] rfl (by (try simp only [List.map_toArray, List.map_cons, List.map_nil]); first | done | rfl | (simp only [List.length_drop, List.length_take]; rfl)) ?_; (with_reducible refine (impl_threadOk.calls k1 _ _ (rd_L7 l0_0 x16_1) true _ ?side1 ?side2 A10.out).mono ?_); (case side1 => repeat (first | exact (Kd.C_below HR167_0.out HB.out) | (with_reducible refine Kd.C_alloc ?_ _) | (with_reducible refine Kd.C_drewN ?_ _) | (with_reducible refine Kd.C_drew ?_))); (case side2 => exact HC167_0.out); rintro e w12 ⟨rfl, hb⟩; refine ⟨_, rfl, ?_⟩; replace BK166 := am_ (blk_below (bu BK166.out) hb); replace HB := am_ (below_step z19_5 hb); (try clear hb); (try clear hb2); (try clear hk); (try clear hi)))
       go_loopg [4, 29] k1 (fun kq v4 v29 w' => ∃ (x4_2 : Int) (x29_2 : Int), v4 = .int .i64 x4_2 ∧ v29 = .int .i64 x29_2 ∧ Aside0 (impl_ProgOk.l1 kq (wrap64 (x3_1 + ((rd_L7 l0_0 x16_1).length : Int))) x4_2 l0_0 (l0_0.length : Int) x16_1 (rd_L7 l0_0 x16_1) ((rd_L7 l0_0 x16_1).length : Int) x29_2 = some r) ∧ Aside0 (kq ≤ k1) ∧ Aside0 (w'.heap[gb166]? = some (.cells #[(.slice (some ad167) l0_0.length c0_0)] 32 (0, 0))) ∧ Aside0 (Below w.heap.size w w'))
       case atStart => exact ⟨(x4_1), (0), z19_1, z19_1, H', ⟨Nat.le_refl _⟩, ⟨bu BK166.out⟩, ⟨z19_5⟩⟩
       case round =>
        clear H'
        obtain ⟨x4_2, x29_2, rfl, rfl, HA, HK2, BK166, HB⟩ := hrel
        cases gk with
        | zero => exact absurd HA.out (by simp [impl_ProgOk.l1])
        | succ k2 =>
         have H := HA.out
         clear HA
         simp only [impl_ProgOk.l1] at H
         by_cases c13 : x29_2 < ((rd_L7 l0_0 x16_1).length : Int)
         ·rw [if_pos c13] at H
          have c13b0 : decide (x29_2 < ((rd_L7 l0_0 x16_1).length : Int)) = true := decide_eq_true c13
          clear c13
          by_cases c14 : 0 ≤ x29_2
          ·rw [if_pos c14] at H
           have c14b0 : decide (0 ≤ x29_2) = true := decide_eq_true c14
           clear c14
           by_cases c15 : x29_2 < ((rd_L7 l0_0 x16_1).length : Int)
           ·rw [if_pos c15] at H
            have c15b0 : decide (x29_2 < ((rd_L7 l0_0 x16_1).length : Int)) = true := decide_eq_true c15
            clear c15
            replace H := Option.bind_eq_some_iff.mp H
            obtain ⟨t171, A160, H⟩ := H
            replace H : (if t171 = true then (impl_ProgOk.l1 k2 (wrap64 (x3_1 + ((rd_L7 l0_0 x16_1).length : Int))) (wrap64 (x4_2 + 1)) l0_0 (l0_0.length : Int) x16_1 (rd_L7 l0_0 x16_1) ((rd_L7 l0_0 x16_1).length : Int) (wrap64 (x29_2 + 1))) else (impl_ProgOk.l1 k2 (wrap64 (x3_1 + ((rd_L7 l0_0 x16_1).length : Int))) x4_2 l0_0 (l0_0.length : Int) x16_1 (rd_L7 l0_0 x16_1) ((rd_L7 l0_0 x16_1).length : Int) (wrap64 (x29_2 + 1)))) = some r := H
            have A16 := am_ A160
            clear A160
            by_cases c17 : t171 = true
            ·subst c17
             have H1 : (impl_ProgOk.l1 k2 (wrap64 (x3_1 + ((rd_L7 l0_0 x16_1).length : Int))) (wrap64 (x4_2 + 1)) l0_0 (l0_0.length : Int) x16_1 (rd_L7 l0_0 x16_1) ((rd_L7 l0_0 x16_1).length : Int) (wrap64 (x29_2 + 1))) = some r := by rw [if_pos rfl] at H; exact H
             clear H
             have H := H1
             clear H1
             have H' := am_ H
             clear H
             have p169 : 0 ≤ (x29_2 : Int) := of_decide_eq_true z19_2
             have q169 : x29_2 < ((rd_L7 l0_0 x16_1).length : Int) := of_decide_eq_true z19_2
             obtain ⟨ad169, e169, hx169_0, hx169_1, hx169_2⟩ := at_T70 HR167_0.out x29_2 p169 q169
             cases e169
             replace hx169_0 := (HB.out.cell (World.block_lt_of_cell? w _ hx169_0)).trans hx169_0
             replace hx169_1 := (HB.out.cell (World.block_lt_of_cell? w _ hx169_1)).trans hx169_1
             replace hx169_2 := (HB.out.cell (World.block_lt_of_cell? w _ hx169_2)).trans hx169_2
             replace p169 := eq_true p169
             replace q169 := eq_true q169
             go_wp2_with (first | ((with_reducible refine gate_dst (N := 8) rfl ?_); refine box_event ?hg (N := 8) ?hd (cs := #[.int .i64 0, .int .i64 0, .int .i64 0]) (t := 70) ?hr ?_; (case hd => rfl); (case hg => rfl); (case hr => first | (go_simp; done) | (go_simp; rfl)); intro gb170 hg w18 hbox hb; have n0_ := am_ (blk_below (bu BK166.out) hb); have n1_ := am_ (below_step z19_5 hb); have n2_ := am_ (hbox); have n3_ := am_ (by rw [hg]; exact (below_size z19_5) : w.heap.size ≤ gb170); have n4_ := am_ (by rw [hg]; exact (below_size z19_5) : w.heap.size ≤ gb170); have n5_ := am_ (by rw [hg]; exact Nat.ne_of_lt (blk_lt (bu BK166.out)) : gb166 ≠ gb170); have n6_ := am_ (by rw [hg]; exact Nat.ne_of_gt (blk_lt (bu BK166.out)) : gb170 ≠ gb166); clear BK166 HB; have BK166 := n0_; have HB := n1_; have BK170 := n2_; have GW170 := n3_; have GE170 := n4_; have NB166_170 := n5_; have NB170_166 := n6_; clear n0_ n1_ n2_ n3_ n4_ n5_ n6_; clear hb hbox hg; have hnb19 := NB170_166.out; have hnc19 := NB166_170.out; have hcz20_0 := cf0 BK170.out; have hcz20_1 := cf1 BK170.out; have hcz20_2 := cf2 BK170.out; have hfz20_0 := blk_frozen BK170.out 0; have hfz20_1 := blk_frozen BK170.out 1; have hfz20_2 := blk_frozen BK170.out 2) | ((with_reducible refine gate_callee (f := 34) rfl ?_); refine goesL_ (some 34) rfl rfl Try.func34 (by kernel_rfl) rfl #[.agg #[.int .i64 ((rd_T70 (rd_L7 l0_0 x16_1) x29_2).f0), .int .i64 ((rd_T70 (rd_L7 l0_0 x16_1) x29_2).f1), .int .i64 ((rd_T70 (rd_L7 l0_0 x16_1) x29_2).f2)]] rfl (by (try simp only [List.map_toArray, List.map_cons, List.map_nil]); first | done | rfl | (simp only [List.length_drop, List.length_take]; rfl)) ?_; (with_reducible refine (impl_Do_uses.calls ((rd_T70 (rd_L7 l0_0 x16_1) x29_2).f0) ((rd_T70 (rd_L7 l0_0 x16_1) x29_2).f1) ((rd_T70 (rd_L7 l0_0 x16_1) x29_2).f2) true _ A16.out).mono ?_); rintro e w21 ⟨rfl, hb⟩; refine ⟨_, rfl, ?_⟩; replace BK166 := am_ (blk_below (g := gb166) (o := .cells #[.slice (some ad167) l0_0.length c0_0] 32 (0, 0)) z19_7 hb); replace BK170 := am_ (blk_below (g := gb170) (o := .cells #[.int .i64 ((rd_T70 (rd_L7 l0_0 x16_1) x29_2).f0), .int .i64 ((rd_T70 (rd_L7 l0_0 x16_1) x29_2).f1), .int .i64 ((rd_T70 (rd_L7 l0_0 x16_1) x29_2).f2)] 70 (0, 0)) z19_8 hb); replace HB := am_ (below_step z19_6 hb); (try clear hb); (try clear hb2); (try clear hk); (try clear hi)))
             go_roundg k2
             case measure => have := HK1.out; have := HK2.out; omega
             case rel => exact ⟨(wrap64 (x4_2 + 1)), (wrap64 (x29_2 + 1)), z19_1, z19_1, H', ⟨by have := HK1.out; have := HK2.out; omega⟩, ⟨bu BK166.out⟩, ⟨z19_6⟩⟩
            replace c17 := Bool.eq_false_iff.mpr c17
            subst c17
            have H1 : (impl_ProgOk.l1 k2 (wrap64 (x3_1 + ((rd_L7 l0_0 x16_1).length : Int))) x4_2 l0_0 (l0_0.length : Int) x16_1 (rd_L7 l0_0 x16_1) ((rd_L7 l0_0 x16_1).length : Int) (wrap64 (x29_2 + 1))) = some r := by rw [if_neg (show ¬ (false = true) by decide)] at H; exact H
            clear H
            have H := H1
            clear H1
            have H' := am_ H
            clear H
            have p169 : 0 ≤ (x29_2 : Int) := of_decide_eq_true z19_2
            have q169 : x29_2 < ((rd_L7 l0_0 x16_1).length : Int) := of_decide_eq_true z19_2
            obtain ⟨ad169, e169, hx169_0, hx169_1, hx169_2⟩ := at_T70 HR167_0.out x29_2 p169 q169
            cases e169
            replace hx169_0 := (HB.out.cell (World.block_lt_of_cell? w _ hx169_0)).trans hx169_0
            replace hx169_1 := (HB.out.cell (World.block_lt_of_cell? w _ hx169_1)).trans hx169_1
            replace hx169_2 := (HB.out.cell (World.block_lt_of_cell? w _ hx169_2)).trans hx169_2
            replace p169 := eq_true p169
            replace q169 := eq_true q169
            go_wp2_with (first | ((with_reducible refine gate_dst (N := 8) rfl ?_); refine box_event ?hg (N := 8) ?hd (cs := #[.int .i64 0, .int .i64 0, .int .i64 0]) (t := 70) ?hr ?_; (case hd => rfl); (case hg => rfl); (case hr => first | (go_simp; done) | (go_simp; rfl)); intro gb170 hg w22 hbox hb; have n0_ := am_ (blk_below (bu BK166.out) hb); have n1_ := am_ (below_step z19_5 hb); have n2_ := am_ (hbox); have n3_ := am_ (by rw [hg]; exact (below_size z19_5) : w.heap.size ≤ gb170); have n4_ := am_ (by rw [hg]; exact (below_size z19_5) : w.heap.size ≤ gb170); have n5_ := am_ (by rw [hg]; exact Nat.ne_of_lt (blk_lt (bu BK166.out)) : gb166 ≠ gb170); have n6_ := am_ (by rw [hg]; exact Nat.ne_of_gt (blk_lt (bu BK166.out)) : gb170 ≠ gb166); clear BK166 HB; have BK166 := n0_; have HB := n1_; have BK170 := n2_; have GW170 := n3_; have GE170 := n4_; have NB166_170 := n5_; have NB170_166 := n6_; clear n0_ n1_ n2_ n3_ n4_ n5_ n6_; clear hb hbox hg; have hnb23 := NB170_166.out; have hnc23 := NB166_170.out; have hcz24_0 := cf0 BK170.out; have hcz24_1 := cf1 BK170.out; have hcz24_2 := cf2 BK170.out; have hfz24_0 := blk_frozen BK170.out 0; have hfz24_1 := blk_frozen BK170.out 1; have hfz24_2 := blk_frozen BK170.out 2) | ((with_reducible refine gate_callee (f := 34) rfl ?_); refine goesL_ (some 34) rfl rfl Try.func34 (by kernel_rfl) rfl #[.agg #[.int .i64 ((rd_T70 (rd_L7 l0_0 x16_1) x29_2).f0), .int .i64 ((rd_T70 (rd_L7 l0_0 x16_1) x29_2).f1), .int .i64 ((rd_T70 (rd_L7 l0_0 x16_1) x29_2).f2)]] rfl (by (try simp only [List.map_toArray, List.map_cons, List.map_nil]); first | done | rfl | (simp only [List.length_drop, List.length_take]; rfl)) ?_; (with_reducible refine (impl_Do_uses.calls ((rd_T70 (rd_L7 l0_0 x16_1) x29_2).f0) ((rd_T70 (rd_L7 l0_0 x16_1) x29_2).f1) ((rd_T70 (rd_L7 l0_0 x16_1) x29_2).f2) false _ A16.out).mono ?_); rintro e w25 ⟨rfl, hb⟩; refine ⟨_, rfl, ?_⟩; replace BK166 := am_ (blk_below (g := gb166) (o := .cells #[.slice (some ad167) l0_0.length c0_0] 32 (0, 0)) z19_7 hb); replace BK170 := am_ (blk_below (g := gb170) (o := .cells #[.int .i64 ((rd_T70 (rd_L7 l0_0 x16_1) x29_2).f0), .int .i64 ((rd_T70 (rd_L7 l0_0 x16_1) x29_2).f1), .int .i64 ((rd_T70 (rd_L7 l0_0 x16_1) x29_2).f2)] 70 (0, 0)) z19_8 hb); replace HB := am_ (below_step z19_6 hb); (try clear hb); (try clear hb2); (try clear hk); (try clear hi)))
            go_roundg k2
            case measure => have := HK1.out; have := HK2.out; omega
            case rel => exact ⟨(x4_2), (wrap64 (x29_2 + 1)), z19_1, z19_1, H', ⟨by have := HK1.out; have := HK2.out; omega⟩, ⟨bu BK166.out⟩, ⟨z19_6⟩⟩
           rw [if_neg c15] at H
           exact absurd H (by simp)
          rw [if_neg c14] at H
          exact absurd H (by simp)
         rw [if_neg c13] at H
         have c13b0 : decide (x29_2 < ((rd_L7 l0_0 x16_1).length : Int)) = false := decide_eq_false c13
         clear c13
         have H' := am_ H
         clear H
         go_wp2
         go_roundg k2
         case measure => have := HK1.out; have := HK2.out; omega
         case rel => exact ⟨((wrap64 (x3_1 + ((rd_L7 l0_0 x16_1).length : Int)))), (x4_2), (wrap64 (x16_1 + 1)), z19_1, z19_1, z19_1, H', ⟨by have := HK1.out; have := HK2.out; omega⟩, ⟨bu BK166.out⟩, ⟨z19_5⟩⟩
      replace c11 := Bool.eq_false_iff.mpr c11
      subst c11
      have H1 : (some false) = some r := by rw [if_neg (show ¬ (false = true) by decide)] at H; exact H
      clear H
      have H := H1
      clear H1
      obtain rfl := Option.some.inj H
      have p167 : 0 ≤ (x16_1 : Int) := of_decide_eq_true z19_2
      have q167 : x16_1 < (l0_0.length : Int) := of_decide_eq_true z19_2
      obtain ⟨ad167, A167_0, c167_0, e167, hx167_0, hl167_0, hi167_0⟩ := at_L7 HR0_0.out x16_1 p167 q167
      cases e167
      replace hx167_0 := (HB.out.cell (World.block_lt_of_cell? w _ hx167_0)).trans hx167_0
      have HR167_0 := am_ hi167_0
      have HC167_0 := am_ hl167_0
      clear hi167_0 hl167_0
      replace p167 := eq_true p167
      replace q167 := eq_true q167
      go_wp2_with (first | ((with_reducible refine gate_callee (f := 33) rfl ?_); refine goesL_ (some 21) rfl rfl Try.func33 (by kernel_rfl) rfl #[.slice A167_0 (rd_L7 l0_0 x16_1).length c167_0] rfl (by (try simp only [List.map_toArray, List.map_cons, List.map_nil]); first | done | rfl | (simp only [List.length_drop, List.length_take]; rfl)) ?_; (with_reducible refine (impl_threadOk.calls k1 _ _ (rd_L7 l0_0 x16_1) false _ ?side1 ?side2 A10.out).mono ?_); (case side1 => repeat (first | exact (Kd.C_below HR167_0.out HB.out) | (with_reducible refine Kd.C_alloc ?_ _) | (with_reducible refine Kd.C_drewN ?_ _) | (with_reducible refine Kd.C_drew ?_))); (case side2 => exact HC167_0.out); rintro e w26 ⟨rfl, hb⟩; refine ⟨_, rfl, ?_⟩; replace BK166 := am_ (blk_below (bu BK166.out) hb); replace HB := am_ (below_step z19_5 hb); (try clear hb); (try clear hb2); (try clear hk); (try clear hi)))
      go_ret
      exact ⟨z19_3, z19_5⟩
     rw [if_neg c9] at H
     exact absurd H (by simp)
    rw [if_neg c8] at H
    exact absurd H (by simp)
   rw [if_neg c7] at H
   have c7b0 : decide (x16_1 < (l0_0.length : Int)) = false := decide_eq_false c7
   clear c7
   by_cases c27 : x3_1 ≤ 14
   ·rw [if_pos c27] at H
    have c27b0 : decide (x3_1 ≤ 14) = true := decide_eq_true c27
    clear c27
    obtain rfl := Option.some.inj H
    go_wp2
    go_ret
    exact ⟨z19_3, z19_5⟩
   rw [if_neg c27] at H
   have c27b0 : decide (x3_1 ≤ 14) = false := decide_eq_false c27
   clear c27
   obtain rfl := Option.some.inj H
   go_wp2
   go_ret
   exact ⟨z19_3, z19_5⟩

end Go.Proofs.Ytmkchdlkpbnldaa.PB

namespace Go.Proofs.Ytmkchdlkpbnldaa.PB
open Go.RowKit Go.Proofs.YtmkchdlkpbnldaaW.PrintWords Go.Proofs.YtmkchdlkpbnldaaW.PrintLast Go.Proofs.YtmkchdlkpbnldaaW.PrintMore
attribute [local go_sem] max2_int min2_int max_two min_two max_three min_three max_four min_four   -- for this text's walks alone
open Go.Proofs.YtmkchdlkpbnldaaMine
set_option linter.unusedVariables false
set_option linter.unusedSimpArgs false

theorem z35_1 {p : Prop} (h : p := by first | rfl | (simp; done) | (simp [*]; done)) : p := h
theorem z35_2 {p : Prop} (h : p := by first | (with_reducible assumption) | assumption) : p := h
theorem z35_3 {p : Prop} (h : p := by first | rfl | (simp [errW_none, errW_some] <;> rfl) | (simp [*, errW_none, errW_some] <;> rfl)) : p := h
theorem z35_4 {p : Prop} (h : p := by repeat (first | (with_reducible first | exact HB.out | apply below_alloc | apply pw_below_drewN | apply below_drew1) | exact HB.out)) : p := h
theorem z35_5 {p : Prop} (h : p := by first | exact Kd.R_nil _ _ _ _ _ | exact Kd.N_nil _ _ _ _ _ | exact Kd.V_nil _ _ _ _ _ | exact Kd.Q_nil _ _ _ _ _ | exact Kd.S_nil _ _ _ _ _) : p := h
theorem z35_6 {p : Prop} (h : p := by repeat (first | (with_reducible first | exact HB.out | apply below_alloc | apply pw_below_drewN | apply below_drew1 | refine below_set ?_ GE172.out) | exact HB.out)) : p := h
theorem z35_7 {p : Prop} (h : p := by repeat (first | (with_reducible first | exact HB.out | apply below_alloc | apply pw_below_drewN | apply below_drew1 | refine below_set ?_ GE172.out | refine below_set ?_ GE176.out) | exact HB.out)) : p := h
theorem z35_8 {p : Prop} (h : p := by (with_reducible repeat (first | refine blk_drewN ?_ _ | refine blk_drew ?_ | refine blk_alloc ?_ _)); refine blk_far ?_ NB172_176.out _; (with_reducible repeat (first | refine blk_drewN ?_ _ | refine blk_drew ?_ | refine blk_alloc ?_ _)); refine blk_far ?_ NB172_176.out _; (with_reducible repeat (first | refine blk_drewN ?_ _ | refine blk_drew ?_ | refine blk_alloc ?_ _)); refine blk_far ?_ NB172_176.out _; (with_reducible repeat (first | refine blk_drewN ?_ _ | refine blk_drew ?_ | refine blk_alloc ?_ _)); exact BK172.out) : p := h
theorem z35_9 {p : Prop} (h : p := by (with_reducible repeat (first | refine blk_drewN ?_ _ | refine blk_drew ?_ | refine blk_alloc ?_ _)); refine blk_put (cs := #[.int .i64 ((rd_T70 (rd_L7 l0_0 x14_1) x21_2).f0), .int .i64 ((rd_T70 (rd_L7 l0_0 x14_1) x21_2).f1), .int .i64 0]) ?_ 2 _ rfl; (with_reducible repeat (first | refine blk_drewN ?_ _ | refine blk_drew ?_ | refine blk_alloc ?_ _)); refine blk_put (cs := #[.int .i64 ((rd_T70 (rd_L7 l0_0 x14_1) x21_2).f0), .int .i64 0, .int .i64 0]) ?_ 1 _ rfl; (with_reducible repeat (first | refine blk_drewN ?_ _ | refine blk_drew ?_ | refine blk_alloc ?_ _)); refine blk_put (cs := #[.int .i64 0, .int .i64 0, .int .i64 0]) ?_ 0 _ rfl; (with_reducible repeat (first | refine blk_drewN ?_ _ | refine blk_drew ?_ | refine blk_alloc ?_ _)); exact BK176.out) : p := h
/-! ### impl_ExecEvents: function 35 -/
mutual
def impl_ExecEvents.l0 : Nat → List (S80) → List (List (S70)) → Int → Int → Option ((List (S80)))
  | 0, _, _, _, _ => none
  | k + 1, x3, x12, x13, x14 => if x14 < x13 then (if 0 ≤ x14 then (if x14 < (x12.length : Int) then (impl_ExecEvents.l1 k x3 x14 x12 x13 x14 (rd_L7 x12 x14) ((rd_L7 x12 x14).length : Int) 0) else (none)) else (none)) else (some x3)
def impl_ExecEvents.l1 : Nat → List (S80) → Int → List (List (S70)) → Int → Int → List (S70) → Int → Int → Option ((List (S80)))
  | 0, _, _, _, _, _, _, _, _ => none
  | k + 1, x3, x4, x12, x13, x14, x19, x20, x21 => if x21 < x20 then (if 0 ≤ x21 then (if x21 < (x19.length : Int) then (if x3.length < 5864062014805 then ((some (x3 ++ [(⟨x4, x21, false⟩ : S80)] : List (S80))).bind fun y177 => (if ((rd_T70 x19 x21).f0) = 9 then (if y177.length < 5864062014805 then (impl_ExecEvents.l1 k (y177 ++ [(⟨x4, x21, true⟩ : S80)]) x4 x12 x13 x14 x19 x20 (wrap64 (x21 + 1))) else (none)) else (impl_ExecEvents.l1 k y177 x4 x12 x13 x14 x19 x20 (wrap64 (x21 + 1))))) else (none)) else (none)) else (none)) else (impl_ExecEvents.l0 k x3 x12 x13 (wrap64 (x14 + 1)))
end
def impl_ExecEvents.f (k : Nat) (l0_0 : List (List (S70))) : Option ((List (S80))) := (impl_ProgOk.f k l0_0).bind fun t173 => (if t173 = true then (impl_ExecEvents.l0 k ([] : List (S80)) l0_0 (l0_0.length : Int) 0) else (some ([] : List (S80))))
set_option maxHeartbeats 8000000 in
set_option maxRecDepth 100000 in
theorem impl_ExecEvents.calls (k : Nat) (A0_0 : Option Addr) (c0_0 : Nat) (l0_0 : List (List (S70))) (r : List (S80)) (w : World) (hr0_0 : Kd.C (Kd.slice 70 k70) w A0_0 l0_0.length l0_0) (hc0_0 : l0_0.length ≤ c0_0) (h : impl_ExecEvents.f k l0_0 = some r) :
  Calls Try.prog 35 #[.agg #[.slice A0_0 l0_0.length c0_0]] w fun e w' => ∃ v0_ : Value, e = .returned (v0_) ∧ Kd.R k80 80 w' w.heap.size (fun _ => True) v0_ r ∧ Below w.heap.size w w' := by
 have hu32 := Try.underlying32
 have hu70 := Try.underlying70
 have hu80 := Try.underlying80
 have HR0_0 := am_ hr0_0
 have HC0_0 := am_ hc0_0
 clear hr0_0 hc0_0
 have HB := am_ (Below.refl w.heap.size w)
 have H : ((impl_ProgOk.f k l0_0).bind fun t173 => (if t173 = true then (impl_ExecEvents.l0 k ([] : List (S80)) l0_0 (l0_0.length : Int) 0) else (some ([] : List (S80))))) = some r := h
 clear h
 replace H := Option.bind_eq_some_iff.mp H
 obtain ⟨t173, A20, H⟩ := H
 replace H : (if t173 = true then (impl_ExecEvents.l0 k ([] : List (S80)) l0_0 (l0_0.length : Int) 0) else (some ([] : List (S80)))) = some r := H
 have A2 := am_ A20
 clear A20
 by_cases c3 : t173 = true
 ·subst c3
  have H1 : (impl_ExecEvents.l0 k ([] : List (S80)) l0_0 (l0_0.length : Int) 0) = some r := by rw [if_pos rfl] at H; exact H
  clear H
  have H := H1
  clear H1
  have H' := am_ H
  clear H
  go_enter Try.func35, Try.ntmps35
  go_wp2_with (first | ((with_reducible refine gate_dst (N := 1) rfl ?_); refine box_event ?hg (N := 1) ?hd (cs := #[.slice A0_0 l0_0.length c0_0]) (t := 32) ?hr ?_; (case hd => rfl); (case hg => rfl); (case hr => first | (go_simp; done) | (go_simp; rfl)); intro gb172 hg w4 hbox hb; have n0_ := am_ (below_step z35_4 hb); have n1_ := am_ (hbox); have n2_ := am_ (by rw [hg]; exact (below_size z35_4) : w.heap.size ≤ gb172); have n3_ := am_ (by rw [hg]; exact (below_size z35_4) : w.heap.size ≤ gb172); clear HB; have HB := n0_; have BK172 := n1_; have GW172 := n2_; have GE172 := n3_; clear n0_ n1_ n2_ n3_; clear hb hbox hg; have hcz5_0 := cf0 BK172.out; have hfz5_0 := blk_frozen BK172.out 0) | ((with_reducible refine gate_callee (f := 19) rfl ?_); refine goesL_ (some 9) rfl rfl Try.func19 (by kernel_rfl) rfl #[.agg #[.slice A0_0 l0_0.length c0_0]] rfl (by (try simp only [List.map_toArray, List.map_cons, List.map_nil]); first | done | rfl | (simp only [List.length_drop, List.length_take]; rfl)) ?_; (with_reducible refine (impl_ProgOk.calls k _ _ l0_0 true _ ?side1 ?side2 A2.out).mono ?_); (case side1 => repeat (first | exact (Kd.C_below HR0_0.out HB.out) | (with_reducible refine Kd.C_alloc ?_ _) | (with_reducible refine Kd.C_drewN ?_ _) | (with_reducible refine Kd.C_drew ?_))); (case side2 => exact HC0_0.out); rintro e w6 ⟨rfl, hb⟩; refine ⟨_, rfl, ?_⟩; replace BK172 := am_ (blk_below (bu BK172.out) hb); replace HB := am_ (below_step z35_6 hb); (try clear hb); (try clear hb2); (try clear hk); (try clear hi); have hcz7_0 := cf0 BK172.out; have hfz7_0 := blk_frozen BK172.out 0))
  go_loopg [3, 14] k (fun kq v3 v14 w' => ∃ (x3_1 : List (S80)) (x14_1 : Int), v14 = .int .i64 x14_1 ∧ Aside0 (impl_ExecEvents.l0 kq x3_1 l0_0 (l0_0.length : Int) x14_1 = some r) ∧ Aside0 (kq ≤ k) ∧ Aside0 (Kd.R k80 80 w' w.heap.size (fun _ => True) v3 x3_1) ∧ Aside0 (w'.heap[gb172]? = some (.cells #[(.slice A0_0 l0_0.length c0_0)] 32 (0, 0))) ∧ Aside0 (Below w.heap.size w w'))
  case atStart => exact ⟨(([] : List (S80))), (0), z35_1, H', ⟨Nat.le_refl _⟩, ⟨z35_5⟩, ⟨bu BK172.out⟩, ⟨z35_6⟩⟩
  case round =>
   clear H'
   obtain ⟨x3_1, x14_1, rfl, HA, HK1, HO_3, BK172, HB⟩ := hrel
   cases gk with
   | zero => exact absurd HA.out (by simp [impl_ExecEvents.l0])
   | succ k1 =>
    have H := HA.out
    clear HA
    simp only [impl_ExecEvents.l0] at H
    by_cases c8 : x14_1 < (l0_0.length : Int)
    ·rw [if_pos c8] at H
     have c8b0 : decide (x14_1 < (l0_0.length : Int)) = true := decide_eq_true c8
     clear c8
     by_cases c9 : 0 ≤ x14_1
     ·rw [if_pos c9] at H
      have c9b0 : decide (0 ≤ x14_1) = true := decide_eq_true c9
      clear c9
      by_cases c10 : x14_1 < (l0_0.length : Int)
      ·rw [if_pos c10] at H
       have c10b0 : decide (x14_1 < (l0_0.length : Int)) = true := decide_eq_true c10
       clear c10
       have H' := am_ H
       clear H
       have p174 : 0 ≤ (x14_1 : Int) := of_decide_eq_true z35_2
       have q174 : x14_1 < (l0_0.length : Int) := of_decide_eq_true z35_2
       obtain ⟨ad174, A174_0, c174_0, e174, hx174_0, hl174_0, hi174_0⟩ := at_L7 HR0_0.out x14_1 p174 q174
       cases e174
       replace hx174_0 := (HB.out.cell (World.block_lt_of_cell? w _ hx174_0)).trans hx174_0
       have HR174_0 := am_ hi174_0
       have HC174_0 := am_ hl174_0
       clear hi174_0 hl174_0
       replace p174 := eq_true p174
       replace q174 := eq_true q174
       go_wp2
       go_loopg [3, 21] k1 (fun kq v3 v21 w' => ∃ (x3_2 : List (S80)) (x21_2 : Int), v21 = .int .i64 x21_2 ∧ Aside0 (impl_ExecEvents.l1 kq x3_2 x14_1 l0_0 (l0_0.length : Int) x14_1 (rd_L7 l0_0 x14_1) ((rd_L7 l0_0 x14_1).length : Int) x21_2 = some r) ∧ Aside0 (kq ≤ k1) ∧ Aside0 (Kd.R k80 80 w' w.heap.size (fun _ => True) v3 x3_2) ∧ Aside0 (w'.heap[gb172]? = some (.cells #[(.slice (some ad174) l0_0.length c0_0)] 32 (0, 0))) ∧ Aside0 (Below w.heap.size w w'))
       case atStart => exact ⟨(x3_1), (0), z35_1, H', ⟨Nat.le_refl _⟩, ⟨ru HO_3.out⟩, ⟨bu BK172.out⟩, ⟨z35_6⟩⟩
       case round =>
        clear H'
        obtain ⟨x3_2, x21_2, rfl, HA, HK2, HO_3, BK172, HB⟩ := hrel
        cases gk with
        | zero => exact absurd HA.out (by simp [impl_ExecEvents.l1])
        | succ k2 =>
         have H := HA.out
         clear HA
         simp only [impl_ExecEvents.l1] at H
         by_cases c11 : x21_2 < ((rd_L7 l0_0 x14_1).length : Int)
         ·rw [if_pos c11] at H
          have c11b0 : decide (x21_2 < ((rd_L7 l0_0 x14_1).length : Int)) = true := decide_eq_true c11
          clear c11
          by_cases c12 : 0 ≤ x21_2
          ·rw [if_pos c12] at H
           have c12b0 : decide (0 ≤ x21_2) = true := decide_eq_true c12
           clear c12
           by_cases c13 : x21_2 < ((rd_L7 l0_0 x14_1).length : Int)
           ·rw [if_pos c13] at H
            have c13b0 : decide (x21_2 < ((rd_L7 l0_0 x14_1).length : Int)) = true := decide_eq_true c13
            clear c13
            by_cases c14 : x3_2.length < 5864062014805
            ·rw [if_pos c14] at H
             have LMc14 := am_ c14
             clear c14
             obtain ⟨y177, hy177⟩ : ∃ y_ : List (S80), y_ = (x3_2 ++ [(⟨x14_1, x21_2, false⟩ : S80)]) := ⟨_, rfl⟩
             replace H : (if ((rd_T70 (rd_L7 l0_0 x14_1) x21_2).f0) = 9 then (if y177.length < 5864062014805 then (impl_ExecEvents.l1 k2 (y177 ++ [(⟨x14_1, x21_2, true⟩ : S80)]) x14_1 l0_0 (l0_0.length : Int) x14_1 (rd_L7 l0_0 x14_1) ((rd_L7 l0_0 x14_1).length : Int) (wrap64 (x21_2 + 1))) else (none)) else (impl_ExecEvents.l1 k2 y177 x14_1 l0_0 (l0_0.length : Int) x14_1 (rd_L7 l0_0 x14_1) ((rd_L7 l0_0 x14_1).length : Int) (wrap64 (x21_2 + 1)))) = some r := by first | (rw [hy177]; with_reducible exact H) | (have H2_ := (Option.bind_some _ _).symm.trans H; rw [hy177]; with_reducible exact H2_) | (have H2_ := (Option.bind_some _ _).symm.trans H; with_reducible exact H2_) | with_reducible exact H | (rw [hy177]; exact H) | exact H
             have Ny177 := am_ hy177
             clear hy177
             by_cases c15 : ((rd_T70 (rd_L7 l0_0 x14_1) x21_2).f0) = 9
             ·rw [if_pos c15] at H
              have c15b0 : (((rd_T70 (rd_L7 l0_0 x14_1) x21_2).f0) == 9) = true := beq_iff_eq.mpr c15
              have c15b1 : (((rd_T70 (rd_L7 l0_0 x14_1) x21_2).f0) != 9) = false := bne_eq_false_iff_eq.mpr c15
              clear c15
              by_cases c16 : y177.length < 5864062014805
              ·rw [if_pos c16] at H
               have LMc16 := am_ c16
               clear c16
               obtain ⟨y180, hy180⟩ : ∃ y_ : List (S80), y_ = (y177 ++ [(⟨x14_1, x21_2, true⟩ : S80)]) := ⟨_, rfl⟩
               replace H : (impl_ExecEvents.l1 k2 y180 x14_1 l0_0 (l0_0.length : Int) x14_1 (rd_L7 l0_0 x14_1) ((rd_L7 l0_0 x14_1).length : Int) (wrap64 (x21_2 + 1))) = some r := by first | (rw [hy180]; with_reducible exact H) | (have H2_ := (Option.bind_some _ _).symm.trans H; rw [hy180]; with_reducible exact H2_) | (have H2_ := (Option.bind_some _ _).symm.trans H; with_reducible exact H2_) | with_reducible exact H | (rw [hy180]; exact H) | exact H
               have Ny180 := am_ hy180
               clear hy180
               have H' := am_ H
               clear H
               have p175 : 0 ≤ (x21_2 : Int) := of_decide_eq_true z35_2
               have q175 : x21_2 < ((rd_L7 l0_0 x14_1).length : Int) := of_decide_eq_true z35_2
               obtain ⟨ad175, e175, hx175_0, hx175_1, hx175_2⟩ := at_T70 HR174_0.out x21_2 p175 q175
               cases e175
               replace hx175_0 := (HB.out.cell (World.block_lt_of_cell? w _ hx175_0)).trans hx175_0
               replace hx175_1 := (HB.out.cell (World.block_lt_of_cell? w _ hx175_1)).trans hx175_1
               replace hx175_2 := (HB.out.cell (World.block_lt_of_cell? w _ hx175_2)).trans hx175_2
               replace p175 := eq_true p175
               replace q175 := eq_true q175
               go_wp2_with (first | ((with_reducible refine gate_dst (N := 7) rfl ?_); refine box_event ?hg (N := 7) ?hd (cs := #[.int .i64 0, .int .i64 0, .int .i64 0]) (t := 70) ?hr ?_; (case hd => rfl); (case hg => rfl); (case hr => first | (go_simp; done) | (go_simp; rfl)); intro gb176 hg w17 hbox hb; have n0_ := am_ (Kd.R_below (ru HO_3.out) hb); have n1_ := am_ (blk_below (bu BK172.out) hb); have n2_ := am_ (below_step z35_6 hb); have n3_ := am_ (hbox); have n4_ := am_ (by rw [hg]; exact (below_size z35_6) : w.heap.size ≤ gb176); have n5_ := am_ (by rw [hg]; exact (below_size z35_6) : w.heap.size ≤ gb176); have n6_ := am_ (by rw [hg]; exact Nat.ne_of_lt (blk_lt (bu BK172.out)) : gb172 ≠ gb176); have n7_ := am_ (by rw [hg]; exact Nat.ne_of_gt (blk_lt (bu BK172.out)) : gb176 ≠ gb172); clear HO_3 BK172 HB; have HO_3 := n0_; have BK172 := n1_; have HB := n2_; have BK176 := n3_; have GW176 := n4_; have GE176 := n5_; have NB172_176 := n6_; have NB176_172 := n7_; clear n0_ n1_ n2_ n3_ n4_ n5_ n6_ n7_; clear hb hbox hg; have hnb18 := NB176_172.out; have hnc18 := NB172_176.out; have hcz19_0 := cf0 BK176.out; have hcz19_1 := cf1 BK176.out; have hcz19_2 := cf2 BK176.out; have hfz19_0 := blk_frozen BK176.out 0; have hfz19_1 := blk_frozen BK176.out 1; have hfz19_2 := blk_frozen BK176.out 2) | ((with_reducible refine gate_builtin (b := .append) (xs := #[.tmp 26, .tmp 30]) rfl ?_); at_builtin; refine Kd.R_append k80 (w0 := w) w.heap.size rfl (.tmp 26) (.tmp 30) 58 80 (.agg #[(.int .i64 0), (.int .i64 0), (.bool false)]) 24 rfl Try.underlying58 info80 rfl (by decide) (by omega) u3 x3_2 (⟨x14_1, x21_2, false⟩ : S80) [.int .i64 x14_1, .int .i64 x21_2, .bool false] (fun _ => True) (fun _ => False) rfl (by first | (go_simp; done) | (go_simp; rfl)) ?aP (fun _ hk => hk.elim) ?aF ?aO ?aB ?aS ?aL ?_; (case aP => exact k80_mkM _ _ _ (⟨x14_1, x21_2, false⟩ : S80)); (case aB => exact z35_7); (case aF => exact (fun _ _ => trivial)); (case aO => exact (ru (Kd.R_mono (Kd.R_far (p := ⟨gb176, 2, none⟩) (Kd.R_far (p := ⟨gb176, 1, none⟩) (Kd.R_far (p := ⟨gb176, 0, none⟩) (Kd.R_types HO_3.out BK176.out (by decide)) (fun _ hk => hk.2) (.int .i64 ((rd_T70 (rd_L7 l0_0 x14_1) x21_2).f0))) (fun _ hk => hk.2) (.int .i64 ((rd_T70 (rd_L7 l0_0 x14_1) x21_2).f1))) (fun _ hk => hk.2) (.int .i64 ((rd_T70 (rd_L7 l0_0 x14_1) x21_2).f2))) (fun _ hk => trivial)))); (case aS => exact (below_size z35_7)); (case aL => have := LMc14.out; omega); intro v178 w20 ho hb hg hat; rw [← Ny177.out] at ho; replace BK172 := am_ (blk_grown (g := gb172) (o := .cells #[.slice (some ad174) l0_0.length c0_0] 32 (0, 0)) z35_8 hg (Kd.R_ne HO_3.out BK172.out (by decide))); replace BK176 := am_ (blk_grown (g := gb176) (o := .cells #[.int .i64 ((rd_T70 (rd_L7 l0_0 x14_1) x21_2).f0), .int .i64 ((rd_T70 (rd_L7 l0_0 x14_1) x21_2).f1), .int .i64 ((rd_T70 (rd_L7 l0_0 x14_1) x21_2).f2)] 70 (0, 0)) z35_9 hg (Kd.R_ne HO_3.out BK176.out (by decide))); replace HB := am_ (hb); have HO179 := am_ (ho); clear HO_3; clear ho hb hg hat; have hcz21_0 := cf0 BK176.out; have hcz21_1 := cf1 BK176.out; have hcz21_2 := cf2 BK176.out; have hfz21_0 := blk_frozen BK176.out 0; have hfz21_1 := blk_frozen BK176.out 1; have hfz21_2 := blk_frozen BK176.out 2) | ((with_reducible refine gate_builtin (b := .append) (xs := #[.tmp 35, .tmp 39]) rfl ?_); at_builtin; refine Kd.R_append k80 (w0 := w) w.heap.size rfl (.tmp 35) (.tmp 39) 58 80 (.agg #[(.int .i64 0), (.int .i64 0), (.bool false)]) 24 rfl Try.underlying58 info80 rfl (by decide) (by omega) v178 y177 (⟨x14_1, x21_2, true⟩ : S80) [.int .i64 x14_1, .int .i64 x21_2, .bool true] (fun _ => True) (fun _ => False) rfl rfl ?aP (fun _ hk => hk.elim) ?aF ?aO ?aB ?aS ?aL ?_; (case aP => exact k80_mkM _ _ _ (⟨x14_1, x21_2, true⟩ : S80)); (case aB => exact z35_7); (case aF => exact (fun _ _ => trivial)); (case aO => exact (ru HO179.out)); (case aS => exact (below_size z35_7)); (case aL => have := LMc16.out; omega); intro v181 w22 ho hb hg hat; rw [← Ny180.out] at ho; replace BK172 := am_ (blk_grown (bu BK172.out) hg (Kd.R_ne HO179.out BK172.out (by decide))); replace BK176 := am_ (blk_grown (bu BK176.out) hg (Kd.R_ne HO179.out BK176.out (by decide))); replace HB := am_ (hb); have HO182 := am_ (ho); clear HO179; clear ho hb hg hat))
               go_roundg k2
               case measure => have := HK1.out; have := HK2.out; omega
               case rel => exact ⟨(y180), (wrap64 (x21_2 + 1)), z35_1, H', ⟨by have := HK1.out; have := HK2.out; omega⟩, ⟨ru HO182.out⟩, ⟨bu BK172.out⟩, ⟨z35_7⟩⟩
              rw [if_neg c16] at H
              exact absurd H (by simp)
             rw [if_neg c15] at H
             have c15b0 : (((rd_T70 (rd_L7 l0_0 x14_1) x21_2).f0) == 9) = false := beq_eq_false_iff_ne.mpr c15
             have c15b1 : (((rd_T70 (rd_L7 l0_0 x14_1) x21_2).f0) != 9) = true := bne_iff_ne.mpr c15
             have H' := am_ H
             clear H
             have p175 : 0 ≤ (x21_2 : Int) := of_decide_eq_true z35_2
             have q175 : x21_2 < ((rd_L7 l0_0 x14_1).length : Int) := of_decide_eq_true z35_2
             obtain ⟨ad175, e175, hx175_0, hx175_1, hx175_2⟩ := at_T70 HR174_0.out x21_2 p175 q175
             cases e175
             replace hx175_0 := (HB.out.cell (World.block_lt_of_cell? w _ hx175_0)).trans hx175_0
             replace hx175_1 := (HB.out.cell (World.block_lt_of_cell? w _ hx175_1)).trans hx175_1
             replace hx175_2 := (HB.out.cell (World.block_lt_of_cell? w _ hx175_2)).trans hx175_2
             replace p175 := eq_true p175
             replace q175 := eq_true q175
             go_wp2_with (first | ((with_reducible refine gate_dst (N := 7) rfl ?_); refine box_event ?hg (N := 7) ?hd (cs := #[.int .i64 0, .int .i64 0, .int .i64 0]) (t := 70) ?hr ?_; (case hd => rfl); (case hg => rfl); (case hr => first | (go_simp; done) | (go_simp; rfl)); intro gb176 hg w23 hbox hb; have n0_ := am_ (Kd.R_below (ru HO_3.out) hb); have n1_ := am_ (blk_below (bu BK172.out) hb); have n2_ := am_ (below_step z35_6 hb); have n3_ := am_ (hbox); have n4_ := am_ (by rw [hg]; exact (below_size z35_6) : w.heap.size ≤ gb176); have n5_ := am_ (by rw [hg]; exact (below_size z35_6) : w.heap.size ≤ gb176); have n6_ := am_ (by rw [hg]; exact Nat.ne_of_lt (blk_lt (bu BK172.out)) : gb172 ≠ gb176); have n7_ := am_ (by rw [hg]; exact Nat.ne_of_gt (blk_lt (bu BK172.out)) : gb176 ≠ gb172); clear HO_3 BK172 HB; have HO_3 := n0_; have BK172 := n1_; have HB := n2_; have BK176 := n3_; have GW176 := n4_; have GE176 := n5_; have NB172_176 := n6_; have NB176_172 := n7_; clear n0_ n1_ n2_ n3_ n4_ n5_ n6_ n7_; clear hb hbox hg; have hnb24 := NB176_172.out; have hnc24 := NB172_176.out; have hcz25_0 := cf0 BK176.out; have hcz25_1 := cf1 BK176.out; have hcz25_2 := cf2 BK176.out; have hfz25_0 := blk_frozen BK176.out 0; have hfz25_1 := blk_frozen BK176.out 1; have hfz25_2 := blk_frozen BK176.out 2) | ((with_reducible refine gate_builtin (b := .append) (xs := #[.tmp 26, .tmp 30]) rfl ?_); at_builtin; refine Kd.R_append k80 (w0 := w) w.heap.size rfl (.tmp 26) (.tmp 30) 58 80 (.agg #[(.int .i64 0), (.int .i64 0), (.bool false)]) 24 rfl Try.underlying58 info80 rfl (by decide) (by omega) u3 x3_2 (⟨x14_1, x21_2, false⟩ : S80) [.int .i64 x14_1, .int .i64 x21_2, .bool false] (fun _ => True) (fun _ => False) rfl (by first | (go_simp; done) | (go_simp; rfl)) ?aP (fun _ hk => hk.elim) ?aF ?aO ?aB ?aS ?aL ?_; (case aP => exact k80_mkM _ _ _ (⟨x14_1, x21_2, false⟩ : S80)); (case aB => exact z35_7); (case aF => exact (fun _ _ => trivial)); (case aO => exact (ru (Kd.R_mono (Kd.R_far (p := ⟨gb176, 2, none⟩) (Kd.R_far (p := ⟨gb176, 1, none⟩) (Kd.R_far (p := ⟨gb176, 0, none⟩) (Kd.R_types HO_3.out BK176.out (by decide)) (fun _ hk => hk.2) (.int .i64 ((rd_T70 (rd_L7 l0_0 x14_1) x21_2).f0))) (fun _ hk => hk.2) (.int .i64 ((rd_T70 (rd_L7 l0_0 x14_1) x21_2).f1))) (fun _ hk => hk.2) (.int .i64 ((rd_T70 (rd_L7 l0_0 x14_1) x21_2).f2))) (fun _ hk => trivial)))); (case aS => exact (below_size z35_7)); (case aL => have := LMc14.out; omega); intro v178 w26 ho hb hg hat; rw [← Ny177.out] at ho; replace BK172 := am_ (blk_grown (g := gb172) (o := .cells #[.slice (some ad174) l0_0.length c0_0] 32 (0, 0)) z35_8 hg (Kd.R_ne HO_3.out BK172.out (by decide))); replace BK176 := am_ (blk_grown (g := gb176) (o := .cells #[.int .i64 ((rd_T70 (rd_L7 l0_0 x14_1) x21_2).f0), .int .i64 ((rd_T70 (rd_L7 l0_0 x14_1) x21_2).f1), .int .i64 ((rd_T70 (rd_L7 l0_0 x14_1) x21_2).f2)] 70 (0, 0)) z35_9 hg (Kd.R_ne HO_3.out BK176.out (by decide))); replace HB := am_ (hb); have HO179 := am_ (ho); clear HO_3; clear ho hb hg hat; have hcz27_0 := cf0 BK176.out; have hcz27_1 := cf1 BK176.out; have hcz27_2 := cf2 BK176.out; have hfz27_0 := blk_frozen BK176.out 0; have hfz27_1 := blk_frozen BK176.out 1; have hfz27_2 := blk_frozen BK176.out 2))
             go_roundg k2
             case measure => have := HK1.out; have := HK2.out; omega
             case rel => exact ⟨(y177), (wrap64 (x21_2 + 1)), z35_1, H', ⟨by have := HK1.out; have := HK2.out; omega⟩, ⟨ru HO179.out⟩, ⟨bu BK172.out⟩, ⟨z35_7⟩⟩
            rw [if_neg c14] at H
            exact absurd H (by simp)
           rw [if_neg c13] at H
           exact absurd H (by simp)
          rw [if_neg c12] at H
          exact absurd H (by simp)
         rw [if_neg c11] at H
         have c11b0 : decide (x21_2 < ((rd_L7 l0_0 x14_1).length : Int)) = false := decide_eq_false c11
         clear c11
         have H' := am_ H
         clear H
         go_wp2
         go_roundg k2
         case measure => have := HK1.out; have := HK2.out; omega
         case rel => exact ⟨(x3_2), (wrap64 (x14_1 + 1)), z35_1, H', ⟨by have := HK1.out; have := HK2.out; omega⟩, ⟨ru HO_3.out⟩, ⟨bu BK172.out⟩, ⟨z35_6⟩⟩
      rw [if_neg c10] at H
      exact absurd H (by simp)
     rw [if_neg c9] at H
     exact absurd H (by simp)
    rw [if_neg c8] at H
    have c8b0 : decide (x14_1 < (l0_0.length : Int)) = false := decide_eq_false c8
    clear c8
    obtain rfl := Option.some.inj H
    go_wp2
    go_ret
    exact ⟨_, z35_3, ru HO_3.out, z35_6⟩
 replace c3 := Bool.eq_false_iff.mpr c3
 subst c3
 have H1 : (some ([] : List (S80))) = some r := by rw [if_neg (show ¬ (false = true) by decide)] at H; exact H
 clear H
 have H := H1
 clear H1
 obtain rfl := Option.some.inj H
 go_enter Try.func35, Try.ntmps35
 go_wp2_with (first | ((with_reducible refine gate_dst (N := 1) rfl ?_); refine box_event ?hg (N := 1) ?hd (cs := #[.slice A0_0 l0_0.length c0_0]) (t := 32) ?hr ?_; (case hd => rfl); (case hg => rfl); (case hr => first | (go_simp; done) | (go_simp; rfl)); intro gb172 hg w28 hbox hb; have n0_ := am_ (below_step z35_4 hb); have n1_ := am_ (hbox); have n2_ := am_ (by rw [hg]; exact (below_size z35_4) : w.heap.size ≤ gb172); have n3_ := am_ (by rw [hg]; exact (below_size z35_4) : w.heap.size ≤ gb172); clear HB; have HB := n0_; have BK172 := n1_; have GW172 := n2_; have GE172 := n3_; clear n0_ n1_ n2_ n3_; clear hb hbox hg; have hcz29_0 := cf0 BK172.out; have hfz29_0 := blk_frozen BK172.out 0) | ((with_reducible refine gate_callee (f := 19) rfl ?_); refine goesL_ (some 9) rfl rfl Try.func19 (by kernel_rfl) rfl #[.agg #[.slice A0_0 l0_0.length c0_0]] rfl (by (try simp only [List.map_toArray, List.map_cons, List.map_nil]); first | done | rfl | (simp only [List.length_drop, List.length_take]; rfl)) ?_; (with_reducible refine (impl_ProgOk.calls k _ _ l0_0 false _ ?side1 ?side2 A2.out).mono ?_); (case side1 => repeat (first | exact (Kd.C_below HR0_0.out HB.out) | (with_reducible refine Kd.C_alloc ?_ _) | (with_reducible refine Kd.C_drewN ?_ _) | (with_reducible refine Kd.C_drew ?_))); (case side2 => exact HC0_0.out); rintro e w30 ⟨rfl, hb⟩; refine ⟨_, rfl, ?_⟩; replace BK172 := am_ (blk_below (bu BK172.out) hb); replace HB := am_ (below_step z35_6 hb); (try clear hb); (try clear hb2); (try clear hk); (try clear hi)))
 go_ret
 exact ⟨_, z35_3, z35_5, z35_6⟩

end Go.Proofs.Ytmkchdlkpbnldaa.PB

namespace Go.Proofs.Ytmkchdlkpbnldaa.PB
open Go.RowKit Go.Proofs.YtmkchdlkpbnldaaW.PrintWords Go.Proofs.YtmkchdlkpbnldaaW.PrintLast Go.Proofs.YtmkchdlkpbnldaaW.PrintMore
attribute [local go_sem] max2_int min2_int max_two min_two max_three min_three max_four min_four   -- for this text's walks alone
open Go.Proofs.YtmkchdlkpbnldaaMine
set_option linter.unusedVariables false
set_option linter.unusedSimpArgs false

theorem z20_1 {p : Prop} (h : p := by first | (with_reducible assumption) | assumption) : p := h
theorem z20_2 {p : Prop} (h : p := by simp only [putAll, Act.put, List.setIfInBounds_toArray, List.set_cons_zero, List.set_cons_succ]) : p := h
theorem z20_3 {p : Prop} (h : p := by repeat (first | (with_reducible first | exact HB.out | apply below_alloc | apply pw_below_drewN | apply below_drew1) | exact HB.out)) : p := h
theorem z20_4 {p : Prop} (h : p := by repeat (first | (with_reducible first | exact HB.out | apply below_alloc | apply pw_below_drewN | apply below_drew1 | refine below_set ?_ GE183.out) | exact HB.out)) : p := h
theorem z20_5 {p : Prop} (h : p := by repeat (first | (with_reducible first | exact HB.out | apply below_alloc | apply pw_below_drewN | apply below_drew1 | refine below_set ?_ GE183.out | refine below_set ?_ GE184.out) | exact HB.out)) : p := h
theorem z20_6 {p : Prop} (h : p := by repeat (first | (with_reducible first | exact HB.out | apply below_alloc | apply pw_below_drewN | apply below_drew1 | refine below_set ?_ GE183.out | refine below_set ?_ GE184.out | refine below_set ?_ GE188.out) | exact HB.out)) : p := h
theorem z20_7 {p : Prop} (h : p := by repeat (first | (with_reducible first | exact HB.out | apply below_alloc | apply pw_below_drewN | apply below_drew1 | refine below_set ?_ GE183.out | refine below_set ?_ GE184.out | refine below_set ?_ GE188.out | refine below_set ?_ GE190.out) | exact HB.out)) : p := h
/-! ### impl_sceneOf: function 20 -/
def impl_sceneOf.l0 : Nat → List (S80) → Int → Int → List (List (S70)) → List (List (S70)) → List (S80) → List (S70) → Option ((List (List (S70))) × (List (S80)) × (List (S70)))
  | 0, _, _, _, _, _, _, _ => none
  | k + 1, x11, x12, x13, x01, x02, x03, x00 => if x13 < x12 then (if 0 ≤ x13 then (if x13 < (x11.length : Int) then (if 0 ≤ ((rd_T80 x11 x13).f0) then (if ((rd_T80 x11 x13).f0) < (x01.length : Int) then (if 0 ≤ ((rd_T80 x11 x13).f1) then (if ((rd_T80 x11 x13).f1) < ((rd_L7 x01 ((rd_T80 x11 x13).f0)).length : Int) then (if x00.length < 5864062014805 then (impl_sceneOf.l0 k x11 x12 (wrap64 (x13 + 1)) x01 x02 x03 (x00 ++ [(⟨(rd_T70 (rd_L7 x01 ((rd_T80 x11 x13).f0)) ((rd_T80 x11 x13).f1)).f0, (rd_T70 (rd_L7 x01 ((rd_T80 x11 x13).f0)) ((rd_T80 x11 x13).f1)).f1, (rd_T70 (rd_L7 x01 ((rd_T80 x11 x13).f0)) ((rd_T80 x11 x13).f1)).f2⟩ : S70)])) else (none)) else (none)) else (none)) else (none)) else (none)) else (none)) else (none)) else (some (x02, x03, x00))
def impl_sceneOf.f (k : Nat) (l0_0 : List (List (S70))) : Option ((List (List (S70))) × (List (S80)) × (List (S70))) := (impl_ExecEvents.f k l0_0).bind fun t185 => (impl_sceneOf.l0 k t185 (t185.length : Int) 0 l0_0 l0_0 t185 ([] : List (S70)))
def impl_sceneOf.T5 : Bool × List (List Nat × List Nat) := (true, [([], []), ([0], [0]), ([], []), ([2], [2]), ([], []), ([4], [4]), ([3, 5], [3, 5]), ([6], [6]), ([], []), ([8], [8]), ([7, 9], [7, 9]), ([10], [10]), ([11], [11]), ([1, 12], [1, 12]), ([0, 1, 2, 3, 4, 5, 6, 7, 8, 9, 10, 11, 12, 13], []), ([14, 13, 13, 0, 1, 2, 3, 4, 5, 6, 7, 8, 9, 10, 11, 12, 13], [13, 14])])
def impl_sceneOf.B5 : List Nat := [0, 1, 0, 4, 0, 16, 60, 124, 0, 256, 1020, 2044, 4092, 8191, 16383, 32767]
theorem impl_sceneOf.tab5 : rtab .any (opsOf Try.f20 5) = impl_sceneOf.T5 := by kernel_rfl
theorem impl_sceneOf.bits5 : waitsOk impl_sceneOf.T5.2 impl_sceneOf.B5 = true := by kernel_rfl
set_option maxHeartbeats 8000000 in
set_option maxRecDepth 100000 in
theorem impl_sceneOf.calls (k : Nat) (P0_0_ : Nat → Prop) (A0_0 : Option Addr) (c0_0 : Nat) (l0_0 : List (List (S70))) (r1 : List (List (S70))) (r2 : List (S80)) (r3 : List (S70)) (w : World) (hs0_0 : Kd.V (Kd.slice 70 k70) 55 w w.heap.size (fun k_ => P0_0_ k_) (.slice A0_0 l0_0.length c0_0) l0_0) (h : impl_sceneOf.f k l0_0 = some (r1, r2, r3)) :
  Calls Try.prog 20 #[.agg #[.slice A0_0 l0_0.length c0_0]] w fun e w' => ∃ v0_ v1_ v2_ : Value, e = .returned (.agg #[v0_, v1_, v2_]) ∧ Kd.V (Kd.slice 70 k70) 55 w' w.heap.size (fun k_ => (P0_0_ k_ ∨ w.heap.size ≤ k_) ∧ some k_ ≠ (v1_ : Value).ownBlock ∧ some k_ ≠ (v2_ : Value).ownBlock) v0_ r1 ∧ Kd.R k80 80 w' w.heap.size (fun k_ => (w.heap.size ≤ k_)) v1_ r2 ∧ Kd.R k70 70 w' w.heap.size (fun k_ => (w.heap.size ≤ k_)) v2_ r3 ∧ Below w.heap.size w w' := by
 have hu32 := Try.underlying32
 have hu60 := Try.underlying60
 have hu80 := Try.underlying80
 have hu70 := Try.underlying70
 have HO0_0 := am_ (show Kd.V (Kd.slice 70 k70) 55 w w.heap.size (fun k_ => (P0_0_ k_ ∨ w.heap.size ≤ k_)) (.slice A0_0 l0_0.length c0_0) l0_0 from Kd.V_mono hs0_0 (fun k_ hk => .inl hk))
 have HB := am_ (Below.refl w.heap.size w)
 have H : ((impl_ExecEvents.f k l0_0).bind fun t185 => (impl_sceneOf.l0 k t185 (t185.length : Int) 0 l0_0 l0_0 t185 ([] : List (S70)))) = some (r1, r2, r3) := h
 clear h
 replace H := Option.bind_eq_some_iff.mp H
 obtain ⟨t185, A20, H⟩ := H
 replace H : (impl_sceneOf.l0 k t185 (t185.length : Int) 0 l0_0 l0_0 t185 ([] : List (S70))) = some (r1, r2, r3) := H
 have A2 := am_ A20
 clear A20
 have H' := am_ H
 clear H
 go_enter Try.func20, Try.ntmps20
 try go_wp2_with (first | ((with_reducible refine gate_dst (N := 1) rfl ?_); refine box_event ?hg (N := 1) ?hd (cs := #[.slice A0_0 l0_0.length c0_0]) (t := 32) ?hr ?_; (case hd => rfl); (case hg => rfl); (case hr => first | (go_simp; done) | (go_simp; rfl)); intro gb183 hg w3 hbox hb; have n0_ := am_ (Kd.V_below (Kd.V_elderB (vu HO0_0.out) gb183 (Nat.le_of_eq hg.symm)) hb); have n1_ := am_ (below_step z20_3 hb); have n2_ := am_ (hbox); have n3_ := am_ (by rw [hg]; exact (below_size z20_3) : w.heap.size ≤ gb183); have n4_ := am_ (by rw [hg]; exact (below_size z20_3) : w.heap.size ≤ gb183); clear HO0_0 HB; have HO0_0 := n0_; have HB := n1_; have BK183 := n2_; have GW183 := n3_; have GE183 := n4_; clear n0_ n1_ n2_ n3_ n4_; clear hb hbox hg) | ((with_reducible refine gate_dst (N := 2) rfl ?_); refine box_event ?hg (N := 2) ?hd (cs := #[.slice none 0 0, .slice none 0 0, .slice none 0 0]) (t := 60) ?hr ?_; (case hd => rfl); (case hg => rfl); (case hr => first | (go_simp; done) | (go_simp; rfl)); intro gb184 hg w4 hbox hb; have n0_ := am_ (Kd.V_below (Kd.V_elderB (vu HO0_0.out) gb184 (Nat.le_of_eq hg.symm)) hb); have n1_ := am_ (blk_below (bu BK183.out) hb); have n2_ := am_ (below_step z20_4 hb); have n3_ := am_ (hbox); have n4_ := am_ (by rw [hg]; exact (below_size z20_4) : w.heap.size ≤ gb184); have n5_ := am_ (by rw [hg]; exact (below_size z20_4) : w.heap.size ≤ gb184); have n6_ := am_ (by rw [hg]; exact Nat.ne_of_lt (blk_lt (bu BK183.out)) : gb183 ≠ gb184); have n7_ := am_ (by rw [hg]; exact Nat.ne_of_gt (blk_lt (bu BK183.out)) : gb184 ≠ gb183); clear HO0_0 BK183 HB; have HO0_0 := n0_; have BK183 := n1_; have HB := n2_; have BK184 := n3_; have GW184 := n4_; have GE184 := n5_; have NB183_184 := n6_; have NB184_183 := n7_; clear n0_ n1_ n2_ n3_ n4_ n5_ n6_ n7_; clear hb hbox hg))
 replace HO0_0 := am_ (Kd.V_drew HO0_0.out)
 replace BK183 := am_ (blk_drew BK183.out)
 replace BK184 := am_ (blk_drew BK184.out)
 replace HB := am_ (below_drew1 HB.out)
 refine start_ (n := 6) (S := fun w' => w'.cell? ⟨gb183, 0, none⟩ = some (.slice A0_0 l0_0.length c0_0)) (ds := []) #[false, false, false, false, false, false] (by kernel_rfl) rfl rfl ((blk_cell BK183.out 0).trans rfl) (fun hHeld => ?_)
 generalize w4.drew = w5 at HO0_0 BK183 BK184 HB hHeld ⊢
 refine take_ (i := 0) (N := some 6) (v := ?_) (a' := ?_) #[true, false, false, false, false, false] rfl rfl (by kernel_rfl) (fun _ _ _ h => h) (Or.inl ⟨by rfl, ?_⟩) hHeld ?_ ?_
 rotate_left
 ·intro w' s0
  go_simp
  with_reducible rfl
 rotate_left
 ·simp only [Act.put, List.setIfInBounds_toArray, List.set_cons_zero, List.set_cons_succ, i64_w, i32_w]
  rfl
 refine take_ (i := 1) (N := some 7) (v := ?_) (a' := ?_) #[true, true, false, false, false, false] rfl rfl (by kernel_rfl) (fun _ _ _ h => h) (Or.inl ⟨by rfl, ?_⟩) hHeld ?_ ?_
 rotate_left
 ·intro w' s0
  go_simp
  with_reducible rfl
 rotate_left
 ·simp only [Act.put, List.setIfInBounds_toArray, List.set_cons_zero, List.set_cons_succ, i64_w, i32_w]
  rfl
 refine join_ (σ := Value × Nat) 1 #[true, true, true, true, true, false] (fun s_ => [(8, s_.1), (3, .pointer (some ⟨s_.2, 0, none⟩)), (9, .agg #[.slice A0_0 l0_0.length c0_0, s_.1, .slice none 0 0])]) (fun s_ w' => (w'.cell? ⟨gb183, 0, none⟩ = some (.slice A0_0 l0_0.length c0_0)) ∧ (Kd.V (Kd.slice 70 k70) 55 w' w.heap.size (fun k_ => (P0_0_ k_ ∨ w.heap.size ≤ k_) ∧ some k_ ≠ (s_.1 : Value).ownBlock ∧ k_ ≠ gb183 ∧ k_ ≠ gb184 ∧ k_ ≠ s_.2) (.slice A0_0 l0_0.length c0_0) l0_0) ∧ (Kd.R k80 80 w' w.heap.size (fun k_ => (w.heap.size ≤ k_)) s_.1 t185) ∧ (w'.heap[gb183]? = some (.cells #[.slice A0_0 l0_0.length c0_0] 32 (0, 0))) ∧ (w'.heap[gb184]? = some (.cells #[.slice none 0 0, .slice none 0 0, .slice none 0 0] 60 (0, 0))) ∧ (w'.heap[s_.2]? = some (.cells #[.slice none 0 0, .slice none 0 0, .slice none 0 0] 60 (0, 0))) ∧ (w.heap.size ≤ s_.2) ∧ (w.heap.size ≤ s_.2) ∧ (gb183 ≠ s_.2) ∧ (s_.2 ≠ gb183) ∧ (gb184 ≠ s_.2) ∧ (s_.2 ≠ gb184) ∧ (Below w.heap.size w w')) ?_ ?_
 rotate_left
 ·intro hCont
  refine two_ (i := 2) (j := 4) (Ni := some 8) (Nj := some 3) #[true, true, true, false, false, false] #[true, true, false, false, true, false] rfl rfl rfl rfl (by kernel_rfl) (by decide) (by decide) (fun K hK => ?_) (fun K hK => ?_)
  ·skip
   refine goes_ Try.func35 (by kernel_rfl) rfl #[.agg #[.slice A0_0 l0_0.length c0_0]] (by rfl) rfl rfl (by (try simp only [List.map_toArray, List.map_cons, List.map_nil]); first | done | rfl | (simp only [List.length_drop, List.length_take]; rfl)) ?_
   with_reducible refine (impl_ExecEvents.calls k _ _ l0_0 t185 _ ?side1 ?side2 A2.out).mono ?_
   (case side1 => repeat (first | exact (Kd.V_reads' HO0_0.out).2.2 | (with_reducible refine Kd.C_alloc ?_ _) | (with_reducible refine Kd.C_drewN ?_ _) | (with_reducible refine Kd.C_drew ?_)))
   (case side2 => exact (Kd.V_reads' HO0_0.out).2.1)
   rintro e w6 ⟨v186, rfl, ho0, hb⟩
   refine ⟨_, rfl, ?_⟩
   replace HO0_0 := am_ (Kd.V_elder' (vu HO0_0.out) (Kd.R_base ho0) hb)
   have HO187 := am_ (Kd.R_lower (Kd.R_newM (M := fun k_ => (w.heap.size ≤ k_)) ho0 (below_size z20_5) (fun k_ h_ => h_)) (below_size z20_5))
   replace BK183 := am_ (blk_below (bu BK183.out) hb)
   replace BK184 := am_ (blk_below (bu BK184.out) hb)
   replace HB := am_ (below_step z20_5 hb)
   (try clear hb)
   (try clear hb2)
   (try clear hk)
   (try clear hi)
   (try clear ho0)
   obtain ⟨Ao7, co7, eo7⟩ := Kd.R_slice HO187.out
   (first | subst eo7 | (injection eo7 with f1_ f2_ f3_; have f4_ := f1_.symm; have f5_ := f3_.symm; clear f1_ f2_ f3_; subst f4_; subst f5_))
   refine hK.out _ _ ((blk_cell BK183.out 0).trans rfl) (fun hHeld => ?_)
   clear hK K
   refine norm_ (a' := ?_) ?_ ?_
   rotate_left
   ·show Act.put _ (some 8) _ = _
    simp only [Act.put, List.setIfInBounds_toArray, List.set_cons_zero, List.set_cons_succ, i64_w, i32_w]
    rfl
   refine pure_ (i := 3) (N := some 9) (v := ?_) (a' := ?_) #[true, true, true, true, false, false] rfl rfl (by kernel_rfl) (fun _ _ _ h => h) (Or.inl ⟨by rfl, ?_⟩) ?_ ?_
   rotate_left
   ·intro w'
    go_simp
    with_reducible rfl
   rotate_left
   ·simp only [Act.put, List.setIfInBounds_toArray, List.set_cons_zero, List.set_cons_succ, i64_w, i32_w]
    rfl
   refine one_ (i := 4) (N := some 3) #[true, true, true, true, true, false] rfl rfl (by kernel_rfl) (by decide) (fun K hK => ?_)
   refine box_step ?hg (N := 3) ?hd (cs := #[.slice none 0 0, .slice none 0 0, .slice none 0 0]) (t := 60) ?hr ?_; (case hd => rfl); (case hg => rfl); (case hr => first | (go_simp; done) | (go_simp; rfl))
   intro gb188 hg w8 hbox hb
   have n0_ := am_ (Kd.V_below (Kd.V_elderB (vu HO0_0.out) gb188 (Nat.le_of_eq hg.symm)) hb)
   have n1_ := am_ (Kd.R_below (ru HO187.out) hb)
   have n2_ := am_ (blk_below (bu BK183.out) hb)
   have n3_ := am_ (blk_below (bu BK184.out) hb)
   have n4_ := am_ (below_step z20_5 hb)
   have n5_ := am_ (hbox)
   have n6_ := am_ ((by rw [hg]; exact (below_size z20_5) : w.heap.size ≤ gb188))
   have n7_ := am_ ((by rw [hg]; exact (below_size z20_5) : w.heap.size ≤ gb188))
   have n8_ := am_ ((by rw [hg]; exact Nat.ne_of_lt (blk_lt (bu BK183.out)) : gb183 ≠ gb188))
   have n9_ := am_ ((by rw [hg]; exact Nat.ne_of_gt (blk_lt (bu BK183.out)) : gb188 ≠ gb183))
   have n10_ := am_ ((by rw [hg]; exact Nat.ne_of_lt (blk_lt (bu BK184.out)) : gb184 ≠ gb188))
   have n11_ := am_ ((by rw [hg]; exact Nat.ne_of_gt (blk_lt (bu BK184.out)) : gb188 ≠ gb184))
   clear HO0_0 HO187 BK183 BK184 HB
   have HO0_0 := n0_
   have HO187 := n1_
   have BK183 := n2_
   have BK184 := n3_
   have HB := n4_
   have BK188 := n5_
   have GW188 := n6_
   have GE188 := n7_
   have NB183_188 := n8_
   have NB188_183 := n9_
   have NB184_188 := n10_
   have NB188_184 := n11_
   clear n0_ n1_ n2_ n3_ n4_ n5_ n6_ n7_ n8_ n9_ n10_ n11_ hb hbox hg
   refine hK.out _ _ ((blk_cell BK183.out 0).trans rfl) (fun hHeld => ?_)
   clear hK K
   refine norm_ (a' := ?_) ?_ ?_
   rotate_left
   ·show Act.put _ (some 3) _ = _
    simp only [Act.put, List.setIfInBounds_toArray, List.set_cons_zero, List.set_cons_succ, i64_w, i32_w]
    rfl
   exact norm_ z20_2 (hCont (.slice Ao7 t185.length co7, gb188) _ ⟨hHeld, (vu (Kd.V_mono HO0_0.out (fun _ hk => ⟨hk.1.1.1.1, ⟨hk.1.2, ⟨hk.1.1.1.2, ⟨hk.1.1.2, hk.2⟩⟩⟩⟩))), (ru (Kd.R_mono HO187.out (fun _ hk => hk.1))), (bu BK183.out), (bu BK184.out), (bu BK188.out), GW188.out, GE188.out, NB183_188.out, NB188_183.out, NB184_188.out, NB188_184.out, z20_6⟩)
  skip
  refine box_step ?hg (N := 3) ?hd (cs := #[.slice none 0 0, .slice none 0 0, .slice none 0 0]) (t := 60) ?hr ?_; (case hd => rfl); (case hg => rfl); (case hr => first | (go_simp; done) | (go_simp; rfl))
  intro gb188 hg w6 hbox hb
  have n0_ := am_ (Kd.V_below (Kd.V_elderB (vu HO0_0.out) gb188 (Nat.le_of_eq hg.symm)) hb)
  have n1_ := am_ (blk_below (bu BK183.out) hb)
  have n2_ := am_ (blk_below (bu BK184.out) hb)
  have n3_ := am_ (below_step z20_5 hb)
  have n4_ := am_ (hbox)
  have n5_ := am_ ((by rw [hg]; exact (below_size z20_5) : w.heap.size ≤ gb188))
  have n6_ := am_ ((by rw [hg]; exact (below_size z20_5) : w.heap.size ≤ gb188))
  have n7_ := am_ ((by rw [hg]; exact Nat.ne_of_lt (blk_lt (bu BK183.out)) : gb183 ≠ gb188))
  have n8_ := am_ ((by rw [hg]; exact Nat.ne_of_gt (blk_lt (bu BK183.out)) : gb188 ≠ gb183))
  have n9_ := am_ ((by rw [hg]; exact Nat.ne_of_lt (blk_lt (bu BK184.out)) : gb184 ≠ gb188))
  have n10_ := am_ ((by rw [hg]; exact Nat.ne_of_gt (blk_lt (bu BK184.out)) : gb188 ≠ gb184))
  clear HO0_0 BK183 BK184 HB
  have HO0_0 := n0_
  have BK183 := n1_
  have BK184 := n2_
  have HB := n3_
  have BK188 := n4_
  have GW188 := n5_
  have GE188 := n6_
  have NB183_188 := n7_
  have NB188_183 := n8_
  have NB184_188 := n9_
  have NB188_184 := n10_
  clear n0_ n1_ n2_ n3_ n4_ n5_ n6_ n7_ n8_ n9_ n10_ hb hbox hg
  refine hK.out _ _ ((blk_cell BK183.out 0).trans rfl) (fun hHeld => ?_)
  clear hK K
  refine norm_ (a' := ?_) ?_ ?_
  rotate_left
  ·show Act.put _ (some 3) _ = _
   simp only [Act.put, List.setIfInBounds_toArray, List.set_cons_zero, List.set_cons_succ, i64_w, i32_w]
   rfl
  refine one_ (i := 2) (N := some 8) #[true, true, true, false, true, false] rfl rfl (by kernel_rfl) (by decide) (fun K hK => ?_)
  refine goes_ Try.func35 (by kernel_rfl) rfl #[.agg #[.slice A0_0 l0_0.length c0_0]] (by rfl) rfl rfl (by (try simp only [List.map_toArray, List.map_cons, List.map_nil]); first | done | rfl | (simp only [List.length_drop, List.length_take]; rfl)) ?_
  with_reducible refine (impl_ExecEvents.calls k _ _ l0_0 t185 _ ?side1 ?side2 A2.out).mono ?_
  (case side1 => repeat (first | exact (Kd.V_reads' HO0_0.out).2.2 | (with_reducible refine Kd.C_alloc ?_ _) | (with_reducible refine Kd.C_drewN ?_ _) | (with_reducible refine Kd.C_drew ?_)))
  (case side2 => exact (Kd.V_reads' HO0_0.out).2.1)
  rintro e w7 ⟨v186, rfl, ho0, hb⟩
  refine ⟨_, rfl, ?_⟩
  replace HO0_0 := am_ (Kd.V_elder' (vu HO0_0.out) (Kd.R_base ho0) hb)
  have HO187 := am_ (Kd.R_lower (Kd.R_newM (M := fun k_ => (w.heap.size ≤ k_)) ho0 (below_size z20_6) (fun k_ h_ => h_)) (below_size z20_6))
  replace BK183 := am_ (blk_below (bu BK183.out) hb)
  replace BK184 := am_ (blk_below (bu BK184.out) hb)
  replace BK188 := am_ (blk_below (bu BK188.out) hb)
  replace HB := am_ (below_step z20_6 hb)
  (try clear hb)
  (try clear hb2)
  (try clear hk)
  (try clear hi)
  (try clear ho0)
  obtain ⟨Ao8, co8, eo8⟩ := Kd.R_slice HO187.out
  (first | subst eo8 | (injection eo8 with f1_ f2_ f3_; have f4_ := f1_.symm; have f5_ := f3_.symm; clear f1_ f2_ f3_; subst f4_; subst f5_))
  refine hK.out _ _ ((blk_cell BK183.out 0).trans rfl) (fun hHeld => ?_)
  clear hK K
  refine norm_ (a' := ?_) ?_ ?_
  rotate_left
  ·show Act.put _ (some 8) _ = _
   simp only [Act.put, List.setIfInBounds_toArray, List.set_cons_zero, List.set_cons_succ, i64_w, i32_w]
   rfl
  refine pure_ (i := 3) (N := some 9) (v := ?_) (a' := ?_) #[true, true, true, true, true, false] rfl rfl (by kernel_rfl) (fun _ _ _ h => h) (Or.inl ⟨by rfl, ?_⟩) ?_ ?_
  rotate_left
  ·intro w'
   go_simp
   with_reducible rfl
  rotate_left
  ·simp only [Act.put, List.setIfInBounds_toArray, List.set_cons_zero, List.set_cons_succ, i64_w, i32_w]
   rfl
  exact norm_ z20_2 (hCont (.slice Ao8 t185.length co8, gb188) _ ⟨hHeld, (vu (Kd.V_mono HO0_0.out (fun _ hk => ⟨hk.1.1.1.1, ⟨hk.2, ⟨hk.1.1.1.2, ⟨hk.1.1.2, hk.1.2⟩⟩⟩⟩))), (ru (Kd.R_mono HO187.out (fun _ hk => hk.1))), (bu BK183.out), (bu BK184.out), (bu BK188.out), GW188.out, GE188.out, NB183_188.out, NB188_183.out, NB184_188.out, NB188_184.out, z20_6⟩)
 rintro ⟨v186, gb188⟩ w9 ⟨hS_, h0_, h1_, h2_, h3_, h4_, h5_, h6_, h7_, h8_, h9_, h10_, h11_⟩
 replace HO0_0 := am_ h0_
 have HO187 := am_ h1_
 replace BK183 := am_ h2_
 replace BK184 := am_ h3_
 have BK188 := am_ h4_
 have GW188 := am_ h5_
 have GE188 := am_ h6_
 have NB183_188 := am_ h7_
 have NB188_183 := am_ h8_
 have NB184_188 := am_ h9_
 have NB188_184 := am_ h10_
 replace HB := am_ h11_
 clear h0_ h1_ h2_ h3_ h4_ h5_ h6_ h7_ h8_ h9_ h10_ h11_
 have hHeld : w9.cell? ⟨gb183, 0, none⟩ = some (.slice A0_0 l0_0.length c0_0) := hS_
 obtain ⟨Ao10, co10, eo10⟩ := Kd.R_slice HO187.out
 (first | subst eo10 | (injection eo10 with f1_ f2_ f3_; have f4_ := f1_.symm; have f5_ := f3_.symm; clear f1_ f2_ f3_; subst f4_; subst f5_))
 refine norm_ (a' := ?_) ?_ ?_
 rotate_left
 ·simp only [putAll, Act.put, List.setIfInBounds_toArray, List.set_cons_zero, List.set_cons_succ]
  rfl
 refine one_ (i := 5) (N := none) #[true, true, true, true, true, true] rfl rfl (by kernel_rfl) (by decide) (fun K hK => ?_)
 have hs11 : w9.cell? ⟨gb188, 0, none⟩ = some (.slice none 0 0) := (blk_cell BK188.out 0).trans rfl
 have hfs11 := blk_frozen BK188.out 0
 have hns11_0 := NB183_188.out
 have hns11_1 := NB184_188.out
 have hms11_0 := NB188_183.out
 have hms11_1 := NB188_184.out
 have hs12 : w9.cell? ⟨gb188, 1, none⟩ = some (.slice none 0 0) := (blk_cell BK188.out 1).trans rfl
 have hfs12 := blk_frozen BK188.out 1
 have hns12_0 := NB183_188.out
 have hns12_1 := NB184_188.out
 have hms12_0 := NB188_183.out
 have hms12_1 := NB188_184.out
 have hs13 : w9.cell? ⟨gb188, 2, none⟩ = some (.slice none 0 0) := (blk_cell BK188.out 2).trans rfl
 have hfs13 := blk_frozen BK188.out 2
 have hns13_0 := NB183_188.out
 have hns13_1 := NB184_188.out
 have hms13_0 := NB188_183.out
 have hms13_1 := NB188_184.out
 refine skip_ (w1 := ?_) (by rfl) rfl ?_ ?_
 rotate_left
 ·go_simp
  rfl
 refine hK.out _ _ (((cell_far (p := ⟨gb188, _, none⟩) NB183_188.out _).trans (((cell_far (p := ⟨gb188, _, none⟩) NB183_188.out _).trans (((cell_far (p := ⟨gb188, _, none⟩) NB183_188.out _).trans (hHeld))))))) (fun hHeld => ?_)
 clear hK K
 refine done_ (by kernel_rfl) ?_
 have hnb14 := NB188_183.out
 have hnc14 := NB183_188.out
 have hnb15 := NB188_184.out
 have hnc15 := NB184_188.out
 have hcz16_0 := cf0 BK188.out
 have hcz16_1 := cf1 BK188.out
 have hcz16_2 := cf2 BK188.out
 have hfz16_0 := blk_frozen BK188.out 0
 have hfz16_1 := blk_frozen BK188.out 1
 have hfz16_2 := blk_frozen BK188.out 2
 try go_wp2
 go_loopg [13] k (fun kq v13 w' => ∃ (x13_1 : Int) (x00_1 : List (S70)) (u00 : Value), v13 = .int .i64 x13_1 ∧ Aside0 (impl_sceneOf.l0 kq t185 (t185.length : Int) x13_1 l0_0 l0_0 t185 x00_1 = some (r1, r2, r3)) ∧ Aside0 (kq ≤ k) ∧ Aside0 (Kd.R k80 80 w' w.heap.size (fun k_ => (w.heap.size ≤ k_)) (.slice Ao10 t185.length co10) t185) ∧ Aside0 (Kd.V (Kd.slice 70 k70) 55 w' w.heap.size (fun k_ => (P0_0_ k_ ∨ w.heap.size ≤ k_) ∧ some k_ ≠ ((.slice Ao10 t185.length co10) : Value).ownBlock ∧ some k_ ≠ ((.slice Ao10 t185.length co10) : Value).ownBlock ∧ some k_ ≠ (u00 : Value).ownBlock ∧ k_ ≠ gb183 ∧ k_ ≠ gb184 ∧ k_ ≠ gb188) (.slice A0_0 l0_0.length c0_0) l0_0) ∧ Aside0 (Kd.V (Kd.slice 70 k70) 55 w' w.heap.size (fun k_ => (P0_0_ k_ ∨ w.heap.size ≤ k_) ∧ some k_ ≠ ((.slice Ao10 t185.length co10) : Value).ownBlock ∧ some k_ ≠ ((.slice Ao10 t185.length co10) : Value).ownBlock ∧ some k_ ≠ (u00 : Value).ownBlock ∧ k_ ≠ gb183 ∧ k_ ≠ gb184 ∧ k_ ≠ gb188) (.slice A0_0 l0_0.length c0_0) l0_0) ∧ Aside0 (Kd.R k80 80 w' w.heap.size (fun k_ => (w.heap.size ≤ k_)) (.slice Ao10 t185.length co10) t185) ∧ Aside0 (Kd.R k70 70 w' w.heap.size (fun k_ => (w.heap.size ≤ k_)) u00 x00_1) ∧ Aside0 (w'.heap[gb183]? = some (.cells #[(.slice A0_0 l0_0.length c0_0)] 32 (0, 0))) ∧ Aside0 (w'.heap[gb184]? = some (.cells #[(.slice none 0 0), (.slice none 0 0), (.slice none 0 0)] 60 (0, 0))) ∧ Aside0 (w'.heap[gb188]? = some (.cells #[(.slice A0_0 l0_0.length c0_0), (.slice Ao10 t185.length co10), u00] 60 (0, 0))) ∧ Aside0 (Below w.heap.size w w'))
 case atStart => exact ⟨(0), (([] : List (S70))), (.slice none 0 0), (by first | rfl | (simp; done) | (simp [*]; done)), H', ⟨Nat.le_refl _⟩, ⟨ru (Kd.R_mono (Kd.R_far (p := ⟨gb188, 2, none⟩) (Kd.R_far (p := ⟨gb188, 1, none⟩) (Kd.R_far (p := ⟨gb188, 0, none⟩) (Kd.R_types HO187.out BK188.out (by decide)) (fun _ hk => hk.2) (.slice A0_0 l0_0.length c0_0)) (fun _ hk => hk.2) (.slice Ao10 t185.length co10)) (fun _ hk => hk.2) (.slice none 0 0)) (fun _ hk => hk.1))⟩, ⟨vu (Kd.V_mono (Kd.V_far (p := ⟨gb188, 2, none⟩) (Kd.V_far (p := ⟨gb188, 1, none⟩) (Kd.V_far (p := ⟨gb188, 0, none⟩) (Kd.V_mono HO0_0.out (fun k_ hk => (⟨hk, hk.2.2.2.2⟩ : _ ∧ k_ ≠ gb188))) (fun _ hk => hk.2) (.slice A0_0 l0_0.length c0_0)) (fun _ hk => hk.2) (.slice Ao10 t185.length co10)) (fun _ hk => hk.2) (.slice none 0 0)) (fun _ hk => ⟨hk.1.1, ⟨hk.1.2.1, ⟨hk.1.2.1, ⟨(by simp [Value.ownBlock]), ⟨hk.1.2.2.1, ⟨hk.1.2.2.2.1, hk.1.2.2.2.2⟩⟩⟩⟩⟩⟩))⟩, ⟨vu (Kd.V_mono (Kd.V_far (p := ⟨gb188, 2, none⟩) (Kd.V_far (p := ⟨gb188, 1, none⟩) (Kd.V_far (p := ⟨gb188, 0, none⟩) (Kd.V_mono HO0_0.out (fun k_ hk => (⟨hk, hk.2.2.2.2⟩ : _ ∧ k_ ≠ gb188))) (fun _ hk => hk.2) (.slice A0_0 l0_0.length c0_0)) (fun _ hk => hk.2) (.slice Ao10 t185.length co10)) (fun _ hk => hk.2) (.slice none 0 0)) (fun _ hk => ⟨hk.1.1, ⟨hk.1.2.1, ⟨hk.1.2.1, ⟨(by simp [Value.ownBlock]), ⟨hk.1.2.2.1, ⟨hk.1.2.2.2.1, hk.1.2.2.2.2⟩⟩⟩⟩⟩⟩))⟩, ⟨ru (Kd.R_mono (Kd.R_far (p := ⟨gb188, 2, none⟩) (Kd.R_far (p := ⟨gb188, 1, none⟩) (Kd.R_far (p := ⟨gb188, 0, none⟩) (Kd.R_types HO187.out BK188.out (by decide)) (fun _ hk => hk.2) (.slice A0_0 l0_0.length c0_0)) (fun _ hk => hk.2) (.slice Ao10 t185.length co10)) (fun _ hk => hk.2) (.slice none 0 0)) (fun _ hk => hk.1))⟩, ⟨by first | exact Kd.R_nil _ _ _ _ _ | exact Kd.N_nil _ _ _ _ _ | exact Kd.V_nil _ _ _ _ _ | exact Kd.Q_nil _ _ _ _ _ | exact Kd.S_nil _ _ _ _ _⟩, ⟨by (with_reducible repeat (first | refine blk_drewN ?_ _ | refine blk_drew ?_ | refine blk_alloc ?_ _)); refine blk_far ?_ NB183_188.out _; (with_reducible repeat (first | refine blk_drewN ?_ _ | refine blk_drew ?_ | refine blk_alloc ?_ _)); refine blk_far ?_ NB183_188.out _; (with_reducible repeat (first | refine blk_drewN ?_ _ | refine blk_drew ?_ | refine blk_alloc ?_ _)); refine blk_far ?_ NB183_188.out _; (with_reducible repeat (first | refine blk_drewN ?_ _ | refine blk_drew ?_ | refine blk_alloc ?_ _)); exact BK183.out⟩, ⟨by (with_reducible repeat (first | refine blk_drewN ?_ _ | refine blk_drew ?_ | refine blk_alloc ?_ _)); refine blk_far ?_ NB184_188.out _; (with_reducible repeat (first | refine blk_drewN ?_ _ | refine blk_drew ?_ | refine blk_alloc ?_ _)); refine blk_far ?_ NB184_188.out _; (with_reducible repeat (first | refine blk_drewN ?_ _ | refine blk_drew ?_ | refine blk_alloc ?_ _)); refine blk_far ?_ NB184_188.out _; (with_reducible repeat (first | refine blk_drewN ?_ _ | refine blk_drew ?_ | refine blk_alloc ?_ _)); exact BK184.out⟩, ⟨by (with_reducible repeat (first | refine blk_drewN ?_ _ | refine blk_drew ?_ | refine blk_alloc ?_ _)); refine blk_put (cs := #[.slice A0_0 l0_0.length c0_0, .slice Ao10 t185.length co10, .slice none 0 0]) ?_ 2 _ rfl; (with_reducible repeat (first | refine blk_drewN ?_ _ | refine blk_drew ?_ | refine blk_alloc ?_ _)); refine blk_put (cs := #[.slice A0_0 l0_0.length c0_0, .slice none 0 0, .slice none 0 0]) ?_ 1 _ rfl; (with_reducible repeat (first | refine blk_drewN ?_ _ | refine blk_drew ?_ | refine blk_alloc ?_ _)); refine blk_put (cs := #[.slice none 0 0, .slice none 0 0, .slice none 0 0]) ?_ 0 _ rfl; (with_reducible repeat (first | refine blk_drewN ?_ _ | refine blk_drew ?_ | refine blk_alloc ?_ _)); exact BK188.out⟩, ⟨z20_6⟩⟩
 case round =>
  clear H'
  obtain ⟨x13_1, x00_1, u00, rfl, HA, HK1, HO_11, HO_01, HO_02, HO_03, HO_00, BK183, BK184, BK188, HB⟩ := hrel
  cases gk with
  | zero => exact absurd HA.out (by simp [impl_sceneOf.l0])
  | succ k1 =>
   have H := HA.out
   clear HA
   simp only [impl_sceneOf.l0] at H
   by_cases c17 : x13_1 < (t185.length : Int)
   ·rw [if_pos c17] at H
    have c17b0 : decide (x13_1 < (t185.length : Int)) = true := decide_eq_true c17
    clear c17
    by_cases c18 : 0 ≤ x13_1
    ·rw [if_pos c18] at H
     have c18b0 : decide (0 ≤ x13_1) = true := decide_eq_true c18
     clear c18
     by_cases c19 : x13_1 < (t185.length : Int)
     ·rw [if_pos c19] at H
      have c19b0 : decide (x13_1 < (t185.length : Int)) = true := decide_eq_true c19
      clear c19
      by_cases c20 : 0 ≤ ((rd_T80 t185 x13_1).f0)
      ·rw [if_pos c20] at H
       have c20b0 : decide (0 ≤ ((rd_T80 t185 x13_1).f0)) = true := decide_eq_true c20
       clear c20
       by_cases c21 : ((rd_T80 t185 x13_1).f0) < (l0_0.length : Int)
       ·rw [if_pos c21] at H
        have c21b0 : decide (((rd_T80 t185 x13_1).f0) < (l0_0.length : Int)) = true := decide_eq_true c21
        clear c21
        by_cases c22 : 0 ≤ ((rd_T80 t185 x13_1).f1)
        ·rw [if_pos c22] at H
         have c22b0 : decide (0 ≤ ((rd_T80 t185 x13_1).f1)) = true := decide_eq_true c22
         clear c22
         by_cases c23 : ((rd_T80 t185 x13_1).f1) < ((rd_L7 l0_0 ((rd_T80 t185 x13_1).f0)).length : Int)
         ·rw [if_pos c23] at H
          have c23b0 : decide (((rd_T80 t185 x13_1).f1) < ((rd_L7 l0_0 ((rd_T80 t185 x13_1).f0)).length : Int)) = true := decide_eq_true c23
          clear c23
          by_cases c24 : x00_1.length < 5864062014805
          ·rw [if_pos c24] at H
           have LMc24 := am_ c24
           clear c24
           obtain ⟨y193, hy193⟩ : ∃ y_ : List (S70), y_ = (x00_1 ++ [(⟨(rd_T70 (rd_L7 l0_0 ((rd_T80 t185 x13_1).f0)) ((rd_T80 t185 x13_1).f1)).f0, (rd_T70 (rd_L7 l0_0 ((rd_T80 t185 x13_1).f0)) ((rd_T80 t185 x13_1).f1)).f1, (rd_T70 (rd_L7 l0_0 ((rd_T80 t185 x13_1).f0)) ((rd_T80 t185 x13_1).f1)).f2⟩ : S70)]) := ⟨_, rfl⟩
           replace H : (impl_sceneOf.l0 k1 t185 (t185.length : Int) (wrap64 (x13_1 + 1)) l0_0 l0_0 t185 y193) = some (r1, r2, r3) := by first | (rw [hy193]; with_reducible exact H) | (have H2_ := (Option.bind_some _ _).symm.trans H; rw [hy193]; with_reducible exact H2_) | (have H2_ := (Option.bind_some _ _).symm.trans H; with_reducible exact H2_) | with_reducible exact H | (rw [hy193]; exact H) | exact H
           have Ny193 := am_ hy193
           clear hy193
           have H' := am_ H
           clear H
           have p189 : 0 ≤ (x13_1 : Int) := of_decide_eq_true z20_1
           have q189 : x13_1 < (t185.length : Int) := of_decide_eq_true z20_1
           obtain ⟨ad189, e189, hx189_0, hx189_1, hx189_2⟩ := at_T80 (Kd.R_reads' HO_11.out).2.2 x13_1 p189 q189
           cases e189
           replace p189 := eq_true p189
           replace q189 := eq_true q189
           try go_wp2_with (first | ((with_reducible refine gate_dst (N := 5) rfl ?_); refine box_event ?hg (N := 5) ?hd (cs := #[.int .i64 0, .int .i64 0, .bool false]) (t := 80) ?hr ?_; (case hd => rfl); (case hg => rfl); (case hr => first | (go_simp; done) | (go_simp; rfl)); intro gb190 hg w25 hbox hb; have n0_ := am_ (Kd.R_below (Kd.R_elderB (ru HO_11.out) gb190 (Nat.le_of_eq hg.symm)) hb); have n1_ := am_ (Kd.V_below (Kd.V_elderB (vu HO_01.out) gb190 (Nat.le_of_eq hg.symm)) hb); have n2_ := am_ (Kd.V_below (Kd.V_elderB (vu HO_02.out) gb190 (Nat.le_of_eq hg.symm)) hb); have n3_ := am_ (Kd.R_below (Kd.R_elderB (ru HO_03.out) gb190 (Nat.le_of_eq hg.symm)) hb); have n4_ := am_ (Kd.R_below (ru HO_00.out) hb); have n5_ := am_ (blk_below (bu BK183.out) hb); have n6_ := am_ (blk_below (bu BK184.out) hb); have n7_ := am_ (blk_below (bu BK188.out) hb); have n8_ := am_ (below_step z20_6 hb); have n9_ := am_ (hbox); have n10_ := am_ (by rw [hg]; exact (below_size z20_6) : w.heap.size ≤ gb190); have n11_ := am_ (by rw [hg]; exact (below_size z20_6) : w.heap.size ≤ gb190); have n12_ := am_ (by rw [hg]; exact Nat.ne_of_lt (blk_lt (bu BK183.out)) : gb183 ≠ gb190); have n13_ := am_ (by rw [hg]; exact Nat.ne_of_gt (blk_lt (bu BK183.out)) : gb190 ≠ gb183); have n14_ := am_ (by rw [hg]; exact Nat.ne_of_lt (blk_lt (bu BK184.out)) : gb184 ≠ gb190); have n15_ := am_ (by rw [hg]; exact Nat.ne_of_gt (blk_lt (bu BK184.out)) : gb190 ≠ gb184); have n16_ := am_ (by rw [hg]; exact Nat.ne_of_lt (blk_lt (bu BK188.out)) : gb188 ≠ gb190); have n17_ := am_ (by rw [hg]; exact Nat.ne_of_gt (blk_lt (bu BK188.out)) : gb190 ≠ gb188); clear HO_11 HO_01 HO_02 HO_03 HO_00 BK183 BK184 BK188 HB; have HO_11 := n0_; have HO_01 := n1_; have HO_02 := n2_; have HO_03 := n3_; have HO_00 := n4_; have BK183 := n5_; have BK184 := n6_; have BK188 := n7_; have HB := n8_; have BK190 := n9_; have GW190 := n10_; have GE190 := n11_; have NB183_190 := n12_; have NB190_183 := n13_; have NB184_190 := n14_; have NB190_184 := n15_; have NB188_190 := n16_; have NB190_188 := n17_; clear n0_ n1_ n2_ n3_ n4_ n5_ n6_ n7_ n8_ n9_ n10_ n11_ n12_ n13_ n14_ n15_ n16_ n17_; clear hb hbox hg; have hnb26 := NB190_183.out; have hnc26 := NB183_190.out; have hnb27 := NB190_184.out; have hnc27 := NB184_190.out; have hnb28 := NB190_188.out; have hnc28 := NB188_190.out; have hcz29_0 := cf0 BK190.out; have hcz29_1 := cf1 BK190.out; have hcz29_2 := cf2 BK190.out; have hfz29_0 := blk_frozen BK190.out 0; have hfz29_1 := blk_frozen BK190.out 1; have hfz29_2 := blk_frozen BK190.out 2))
           have n0_ : Aside0 (Kd.R k80 80 (((w25.setCell ⟨gb190, 0, none⟩ (.int .i64 ((rd_T80 t185 x13_1).f0))).setCell ⟨gb190, 1, none⟩ (.int .i64 ((rd_T80 t185 x13_1).f1))).setCell ⟨gb190, 2, none⟩ (.bool ((rd_T80 t185 x13_1).f2))) w.heap.size (fun k_ => (w.heap.size ≤ k_) ∧ k_ ≠ gb190) (.slice (some ad189) t185.length co10) t185) := ⟨ru (Kd.R_mono (Kd.R_far (p := ⟨gb190, 2, none⟩) (Kd.R_far (p := ⟨gb190, 1, none⟩) (Kd.R_far (p := ⟨gb190, 0, none⟩) (Kd.R_mono HO_11.out (fun k_ hk => (⟨hk, hk.2⟩ : _ ∧ k_ ≠ gb190))) (fun _ hk => hk.2) (.int .i64 ((rd_T80 t185 x13_1).f0))) (fun _ hk => hk.2) (.int .i64 ((rd_T80 t185 x13_1).f1))) (fun _ hk => hk.2) (.bool ((rd_T80 t185 x13_1).f2))) (fun _ hk => ⟨hk.1.1, hk.1.2⟩))⟩
           have n1_ : Aside0 (Kd.V (Kd.slice 70 k70) 55 (((w25.setCell ⟨gb190, 0, none⟩ (.int .i64 ((rd_T80 t185 x13_1).f0))).setCell ⟨gb190, 1, none⟩ (.int .i64 ((rd_T80 t185 x13_1).f1))).setCell ⟨gb190, 2, none⟩ (.bool ((rd_T80 t185 x13_1).f2))) w.heap.size (fun k_ => (P0_0_ k_ ∨ w.heap.size ≤ k_) ∧ some k_ ≠ (.slice (some ad189) t185.length co10 : Value).ownBlock ∧ some k_ ≠ (.slice (some ad189) t185.length co10 : Value).ownBlock ∧ some k_ ≠ (u00 : Value).ownBlock ∧ k_ ≠ gb183 ∧ k_ ≠ gb184 ∧ k_ ≠ gb188 ∧ k_ ≠ gb190) (.slice A0_0 l0_0.length c0_0) l0_0) := ⟨vu (Kd.V_mono (Kd.V_far (p := ⟨gb190, 2, none⟩) (Kd.V_far (p := ⟨gb190, 1, none⟩) (Kd.V_far (p := ⟨gb190, 0, none⟩) (Kd.V_mono HO_01.out (fun k_ hk => (⟨hk, hk.2⟩ : _ ∧ k_ ≠ gb190))) (fun _ hk => hk.2) (.int .i64 ((rd_T80 t185 x13_1).f0))) (fun _ hk => hk.2) (.int .i64 ((rd_T80 t185 x13_1).f1))) (fun _ hk => hk.2) (.bool ((rd_T80 t185 x13_1).f2))) (fun _ hk => ⟨hk.1.1.1, ⟨hk.1.1.2.1, ⟨hk.1.1.2.2.1, ⟨hk.1.1.2.2.2.1, ⟨hk.1.1.2.2.2.2.1, ⟨hk.1.1.2.2.2.2.2.1, ⟨hk.1.1.2.2.2.2.2.2, hk.1.2⟩⟩⟩⟩⟩⟩⟩))⟩
           have n2_ : Aside0 (Kd.V (Kd.slice 70 k70) 55 (((w25.setCell ⟨gb190, 0, none⟩ (.int .i64 ((rd_T80 t185 x13_1).f0))).setCell ⟨gb190, 1, none⟩ (.int .i64 ((rd_T80 t185 x13_1).f1))).setCell ⟨gb190, 2, none⟩ (.bool ((rd_T80 t185 x13_1).f2))) w.heap.size (fun k_ => (P0_0_ k_ ∨ w.heap.size ≤ k_) ∧ some k_ ≠ (.slice (some ad189) t185.length co10 : Value).ownBlock ∧ some k_ ≠ (.slice (some ad189) t185.length co10 : Value).ownBlock ∧ some k_ ≠ (u00 : Value).ownBlock ∧ k_ ≠ gb183 ∧ k_ ≠ gb184 ∧ k_ ≠ gb188 ∧ k_ ≠ gb190) (.slice A0_0 l0_0.length c0_0) l0_0) := ⟨vu (Kd.V_mono (Kd.V_far (p := ⟨gb190, 2, none⟩) (Kd.V_far (p := ⟨gb190, 1, none⟩) (Kd.V_far (p := ⟨gb190, 0, none⟩) (Kd.V_mono HO_02.out (fun k_ hk => (⟨hk, hk.2⟩ : _ ∧ k_ ≠ gb190))) (fun _ hk => hk.2) (.int .i64 ((rd_T80 t185 x13_1).f0))) (fun _ hk => hk.2) (.int .i64 ((rd_T80 t185 x13_1).f1))) (fun _ hk => hk.2) (.bool ((rd_T80 t185 x13_1).f2))) (fun _ hk => ⟨hk.1.1.1, ⟨hk.1.1.2.1, ⟨hk.1.1.2.2.1, ⟨hk.1.1.2.2.2.1, ⟨hk.1.1.2.2.2.2.1, ⟨hk.1.1.2.2.2.2.2.1, ⟨hk.1.1.2.2.2.2.2.2, hk.1.2⟩⟩⟩⟩⟩⟩⟩))⟩
           have n3_ : Aside0 (Kd.R k80 80 (((w25.setCell ⟨gb190, 0, none⟩ (.int .i64 ((rd_T80 t185 x13_1).f0))).setCell ⟨gb190, 1, none⟩ (.int .i64 ((rd_T80 t185 x13_1).f1))).setCell ⟨gb190, 2, none⟩ (.bool ((rd_T80 t185 x13_1).f2))) w.heap.size (fun k_ => (w.heap.size ≤ k_) ∧ k_ ≠ gb190) (.slice (some ad189) t185.length co10) t185) := ⟨ru (Kd.R_mono (Kd.R_far (p := ⟨gb190, 2, none⟩) (Kd.R_far (p := ⟨gb190, 1, none⟩) (Kd.R_far (p := ⟨gb190, 0, none⟩) (Kd.R_mono HO_03.out (fun k_ hk => (⟨hk, hk.2⟩ : _ ∧ k_ ≠ gb190))) (fun _ hk => hk.2) (.int .i64 ((rd_T80 t185 x13_1).f0))) (fun _ hk => hk.2) (.int .i64 ((rd_T80 t185 x13_1).f1))) (fun _ hk => hk.2) (.bool ((rd_T80 t185 x13_1).f2))) (fun _ hk => ⟨hk.1.1, hk.1.2⟩))⟩
           have n4_ : Aside0 (Kd.R k70 70 (((w25.setCell ⟨gb190, 0, none⟩ (.int .i64 ((rd_T80 t185 x13_1).f0))).setCell ⟨gb190, 1, none⟩ (.int .i64 ((rd_T80 t185 x13_1).f1))).setCell ⟨gb190, 2, none⟩ (.bool ((rd_T80 t185 x13_1).f2))) w.heap.size (fun k_ => (w.heap.size ≤ k_)) u00 x00_1) := ⟨ru (Kd.R_mono (Kd.R_far (p := ⟨gb190, 2, none⟩) (Kd.R_far (p := ⟨gb190, 1, none⟩) (Kd.R_far (p := ⟨gb190, 0, none⟩) (Kd.R_types HO_00.out BK190.out (by decide)) (fun _ hk => hk.2) (.int .i64 ((rd_T80 t185 x13_1).f0))) (fun _ hk => hk.2) (.int .i64 ((rd_T80 t185 x13_1).f1))) (fun _ hk => hk.2) (.bool ((rd_T80 t185 x13_1).f2))) (fun _ hk => hk.1))⟩
           have n5_ : Aside0 ((((w25.setCell ⟨gb190, 0, none⟩ (.int .i64 ((rd_T80 t185 x13_1).f0))).setCell ⟨gb190, 1, none⟩ (.int .i64 ((rd_T80 t185 x13_1).f1))).setCell ⟨gb190, 2, none⟩ (.bool ((rd_T80 t185 x13_1).f2))).heap[gb183]? = some (.cells #[.slice A0_0 l0_0.length c0_0] 32 (0, 0))) := ⟨by (with_reducible repeat (first | refine blk_drewN ?_ _ | refine blk_drew ?_ | refine blk_alloc ?_ _)); refine blk_far ?_ NB183_190.out _; (with_reducible repeat (first | refine blk_drewN ?_ _ | refine blk_drew ?_ | refine blk_alloc ?_ _)); refine blk_far ?_ NB183_190.out _; (with_reducible repeat (first | refine blk_drewN ?_ _ | refine blk_drew ?_ | refine blk_alloc ?_ _)); refine blk_far ?_ NB183_190.out _; (with_reducible repeat (first | refine blk_drewN ?_ _ | refine blk_drew ?_ | refine blk_alloc ?_ _)); exact BK183.out⟩
           have n6_ : Aside0 ((((w25.setCell ⟨gb190, 0, none⟩ (.int .i64 ((rd_T80 t185 x13_1).f0))).setCell ⟨gb190, 1, none⟩ (.int .i64 ((rd_T80 t185 x13_1).f1))).setCell ⟨gb190, 2, none⟩ (.bool ((rd_T80 t185 x13_1).f2))).heap[gb184]? = some (.cells #[.slice none 0 0, .slice none 0 0, .slice none 0 0] 60 (0, 0))) := ⟨by (with_reducible repeat (first | refine blk_drewN ?_ _ | refine blk_drew ?_ | refine blk_alloc ?_ _)); refine blk_far ?_ NB184_190.out _; (with_reducible repeat (first | refine blk_drewN ?_ _ | refine blk_drew ?_ | refine blk_alloc ?_ _)); refine blk_far ?_ NB184_190.out _; (with_reducible repeat (first | refine blk_drewN ?_ _ | refine blk_drew ?_ | refine blk_alloc ?_ _)); refine blk_far ?_ NB184_190.out _; (with_reducible repeat (first | refine blk_drewN ?_ _ | refine blk_drew ?_ | refine blk_alloc ?_ _)); exact BK184.out⟩
           have n7_ : Aside0 ((((w25.setCell ⟨gb190, 0, none⟩ (.int .i64 ((rd_T80 t185 x13_1).f0))).setCell ⟨gb190, 1, none⟩ (.int .i64 ((rd_T80 t185 x13_1).f1))).setCell ⟨gb190, 2, none⟩ (.bool ((rd_T80 t185 x13_1).f2))).heap[gb188]? = some (.cells #[.slice A0_0 l0_0.length c0_0, .slice (some ad189) t185.length co10, u00] 60 (0, 0))) := ⟨by (with_reducible repeat (first | refine blk_drewN ?_ _ | refine blk_drew ?_ | refine blk_alloc ?_ _)); refine blk_far ?_ NB188_190.out _; (with_reducible repeat (first | refine blk_drewN ?_ _ | refine blk_drew ?_ | refine blk_alloc ?_ _)); refine blk_far ?_ NB188_190.out _; (with_reducible repeat (first | refine blk_drewN ?_ _ | refine blk_drew ?_ | refine blk_alloc ?_ _)); refine blk_far ?_ NB188_190.out _; (with_reducible repeat (first | refine blk_drewN ?_ _ | refine blk_drew ?_ | refine blk_alloc ?_ _)); exact BK188.out⟩
           have n8_ : Aside0 ((((w25.setCell ⟨gb190, 0, none⟩ (.int .i64 ((rd_T80 t185 x13_1).f0))).setCell ⟨gb190, 1, none⟩ (.int .i64 ((rd_T80 t185 x13_1).f1))).setCell ⟨gb190, 2, none⟩ (.bool ((rd_T80 t185 x13_1).f2))).heap[gb190]? = some (.cells #[.int .i64 ((rd_T80 t185 x13_1).f0), .int .i64 ((rd_T80 t185 x13_1).f1), .bool ((rd_T80 t185 x13_1).f2)] 80 (0, 0))) := ⟨by (with_reducible repeat (first | refine blk_drewN ?_ _ | refine blk_drew ?_ | refine blk_alloc ?_ _)); refine blk_put (cs := #[.int .i64 ((rd_T80 t185 x13_1).f0), .int .i64 ((rd_T80 t185 x13_1).f1), .bool false]) ?_ 2 _ rfl; (with_reducible repeat (first | refine blk_drewN ?_ _ | refine blk_drew ?_ | refine blk_alloc ?_ _)); refine blk_put (cs := #[.int .i64 ((rd_T80 t185 x13_1).f0), .int .i64 0, .bool false]) ?_ 1 _ rfl; (with_reducible repeat (first | refine blk_drewN ?_ _ | refine blk_drew ?_ | refine blk_alloc ?_ _)); refine blk_put (cs := #[.int .i64 0, .int .i64 0, .bool false]) ?_ 0 _ rfl; (with_reducible repeat (first | refine blk_drewN ?_ _ | refine blk_drew ?_ | refine blk_alloc ?_ _)); exact BK190.out⟩
           have n9_ : Aside0 (Below w.heap.size w (((w25.setCell ⟨gb190, 0, none⟩ (.int .i64 ((rd_T80 t185 x13_1).f0))).setCell ⟨gb190, 1, none⟩ (.int .i64 ((rd_T80 t185 x13_1).f1))).setCell ⟨gb190, 2, none⟩ (.bool ((rd_T80 t185 x13_1).f2)))) := ⟨z20_7⟩
           (try clear HO_11)
           (try clear HO_01)
           (try clear HO_02)
           (try clear HO_03)
           (try clear HO_00)
           (try clear BK183)
           (try clear BK184)
           (try clear BK188)
           (try clear BK190)
           (try clear HB)
           generalize (((w25.setCell ⟨gb190, 0, none⟩ (.int .i64 ((rd_T80 t185 x13_1).f0))).setCell ⟨gb190, 1, none⟩ (.int .i64 ((rd_T80 t185 x13_1).f1))).setCell ⟨gb190, 2, none⟩ (.bool ((rd_T80 t185 x13_1).f2))) = w30 at n0_ n1_ n2_ n3_ n4_ n5_ n6_ n7_ n8_ n9_ ⊢
           have HO_11 := n0_
           have HO_01 := n1_
           have HO_02 := n2_
           have HO_03 := n3_
           have HO_00 := n4_
           have BK183 := n5_
           have BK184 := n6_
           have BK188 := n7_
           have BK190 := n8_
           have HB := n9_
           clear n0_ n1_ n2_ n3_ n4_ n5_ n6_ n7_ n8_ n9_
           replace HO_11 := am_ (Kd.R_drew HO_11.out)
           replace HO_01 := am_ (Kd.V_drew HO_01.out)
           replace HO_02 := am_ (Kd.V_drew HO_02.out)
           replace HO_03 := am_ (Kd.R_drew HO_03.out)
           replace HO_00 := am_ (Kd.R_drew HO_00.out)
           replace BK183 := am_ (blk_drew BK183.out)
           replace BK184 := am_ (blk_drew BK184.out)
           replace BK188 := am_ (blk_drew BK188.out)
           replace BK190 := am_ (blk_drew BK190.out)
           replace HB := am_ (below_drew1 HB.out)
           have p191 : 0 ≤ (((rd_T80 t185 x13_1).f0) : Int) := of_decide_eq_true z20_1
           have q191 : ((rd_T80 t185 x13_1).f0) < (l0_0.length : Int) := of_decide_eq_true z20_1
           obtain ⟨ad191, A191_0, c191_0, e191, hx191_0, hl191_0, hi191_0⟩ := at_L7 (Kd.V_reads' HO_01.out).2.2 ((rd_T80 t185 x13_1).f0) p191 q191
           cases e191
           obtain ⟨ce191, hce191, hMe191, hcc191⟩ := Kd.V_get HO_01.out [] ((rd_T80 t185 x13_1).f0) p191 (by first | exact q191 | exact of_decide_eq_true z20_1 | (have e_ := (Kd.V_reads' HO_01.out).1; omega))
           obtain ⟨ua191_0, uc191_0, rfl, ul191_0, ge191_0⟩ := Kd.FK_slice_open hMe191
           have hv191_0 := hcc191 0 _ rfl
           rw [Nat.add_zero, show ((Kd.slice 70 k70)).sz = 1 from rfl, Nat.mul_one] at hv191_0
           replace hv191_0 := Option.some.inj (hv191_0.symm.trans hx191_0)
           injection hv191_0 with hva_ hvn_ hvc_
           rw [hva_] at ge191_0
           rw [hvc_] at ul191_0
           have HL191_0 := am_ (show Kd.V k70 70 _ w.heap.size _ _ (rd_L7 l0_0 ((rd_T80 t185 x13_1).f0)) from Kd.V_mk ul191_0 ge191_0)
           clear hva_ hvn_ hvc_ ge191_0 ul191_0 hcc191 hce191
           have HR191_0 := am_ hi191_0
           have HC191_0 := am_ hl191_0
           clear hi191_0 hl191_0
           replace p191 := eq_true p191
           replace q191 := eq_true q191
           have p192 : 0 ≤ (((rd_T80 t185 x13_1).f1) : Int) := of_decide_eq_true z20_1
           have q192 : ((rd_T80 t185 x13_1).f1) < ((rd_L7 l0_0 ((rd_T80 t185 x13_1).f0)).length : Int) := of_decide_eq_true z20_1
           obtain ⟨ad192, e192, hx192_0, hx192_1, hx192_2⟩ := at_T70 (by repeat (first | (with_reducible exact HR191_0.out) | (with_reducible refine Kd.C_alloc ?_ _) | (with_reducible refine Kd.C_drewN ?_ _) | (with_reducible refine Kd.C_drew ?_) | exact HR191_0.out)) ((rd_T80 t185 x13_1).f1) p192 q192
           cases e192
           replace p192 := eq_true p192
           replace q192 := eq_true q192
           refine start_ (n := 16) (S := fun w' => w'.cell? ⟨gb188, 0, none⟩ = some (.slice (some ad191) l0_0.length c0_0) ∧ w'.cell? ⟨gb188, 1, none⟩ = some (.slice (some ad189) t185.length co10) ∧ w'.cell? ⟨gb188, 2, none⟩ = some (u00) ∧ w'.cell? ⟨gb183, 0, none⟩ = some (.slice (some ad191) l0_0.length c0_0) ∧ w'.cell? ⟨gb190, 0, none⟩ = some (.int .i64 ((rd_T80 t185 x13_1).f0)) ∧ w'.cell? ⟨gb190, 1, none⟩ = some (.int .i64 ((rd_T80 t185 x13_1).f1)) ∧ w'.cell? ⟨gb190, 2, none⟩ = some (.bool ((rd_T80 t185 x13_1).f2)) ∧ w'.cell? (ad191.add (((rd_T80 t185 x13_1).f0)).toNat) = some (.slice (some ad192) (rd_L7 l0_0 ((rd_T80 t185 x13_1).f0)).length c191_0) ∧ w'.cell? (ad192.add ((((rd_T80 t185 x13_1).f1)).toNat * 3)) = some (.int .i64 ((rd_T70 (rd_L7 l0_0 ((rd_T80 t185 x13_1).f0)) ((rd_T80 t185 x13_1).f1)).f0)) ∧ w'.cell? ⟨(ad192.add ((((rd_T80 t185 x13_1).f1)).toNat * 3)).block, (ad192.add ((((rd_T80 t185 x13_1).f1)).toNat * 3)).off + 1, none⟩ = some (.int .i64 ((rd_T70 (rd_L7 l0_0 ((rd_T80 t185 x13_1).f0)) ((rd_T80 t185 x13_1).f1)).f1)) ∧ w'.cell? ⟨(ad192.add ((((rd_T80 t185 x13_1).f1)).toNat * 3)).block, (ad192.add ((((rd_T80 t185 x13_1).f1)).toNat * 3)).off + 2, none⟩ = some (.int .i64 ((rd_T70 (rd_L7 l0_0 ((rd_T80 t185 x13_1).f0)) ((rd_T80 t185 x13_1).f1)).f2))) (ds := [13, 15]) #[false, false, false, false, false, false, false, false, false, false, false, false, false, false, false, false] (by kernel_rfl) rfl rfl ⟨(blk_cell BK188.out 0).trans rfl, (blk_cell BK188.out 1).trans rfl, (blk_cell BK188.out 2).trans rfl, (blk_cell BK183.out 0).trans rfl, (blk_cell BK190.out 0).trans rfl, (blk_cell BK190.out 1).trans rfl, (blk_cell BK190.out 2).trans rfl, hx191_0, hx192_0, hx192_1, hx192_2⟩ (fun hHeld => ?_); refine with_tabW impl_sceneOf.tab5 impl_sceneOf.bits5 (fun HT_ HW_ => ?_)
           generalize w30.drew = w31 at HO_11 HO_01 HO_02 HO_03 HO_00 BK183 BK184 BK188 BK190 HB HL191_0 HR191_0 hx191_0 hx192_0 hx192_1 hx192_2 hHeld ⊢
           refine pure_ (i := 0) (N := some 17) (v := ?_) (a' := ?_) #[true, false, false, false, false, false, false, false, false, false, false, false, false, false, false, false] rfl rfl (any_of HT_.out (by kernel_rfl)) (fun _ _ _ h => h) (Or.inl ⟨by rfl, ?_⟩) ?_ ?_
           rotate_left
           ·intro w'
            go_simp
            with_reducible rfl
           rotate_left
           ·simp only [Act.put, List.setIfInBounds_toArray, List.set_cons_zero, List.set_cons_succ, i64_w, i32_w]
            rfl
           refine pure_ (i := 2) (N := some 19) (v := ?_) (a' := ?_) #[true, false, true, false, false, false, false, false, false, false, false, false, false, false, false, false] rfl rfl (any_of HT_.out (by kernel_rfl)) (fun _ _ _ h => h) (Or.inl ⟨by rfl, ?_⟩) ?_ ?_
           rotate_left
           ·intro w'
            go_simp
            with_reducible rfl
           rotate_left
           ·simp only [Act.put, List.setIfInBounds_toArray, List.set_cons_zero, List.set_cons_succ, i64_w, i32_w]
            rfl
           refine pure_ (i := 4) (N := some 21) (v := ?_) (a' := ?_) #[true, false, true, false, true, false, false, false, false, false, false, false, false, false, false, false] rfl rfl (any_of HT_.out (by kernel_rfl)) (fun _ _ _ h => h) (Or.inl ⟨by rfl, ?_⟩) ?_ ?_
           rotate_left
           ·intro w'
            go_simp
            with_reducible rfl
           rotate_left
           ·simp only [Act.put, List.setIfInBounds_toArray, List.set_cons_zero, List.set_cons_succ, i64_w, i32_w]
            rfl
           refine pure_ (i := 8) (N := some 25) (v := ?_) (a' := ?_) #[true, false, true, false, true, false, false, false, true, false, false, false, false, false, false, false] rfl rfl (any_of HT_.out (by kernel_rfl)) (fun _ _ _ h => h) (Or.inl ⟨by rfl, ?_⟩) ?_ ?_
           rotate_left
           ·intro w'
            go_simp
            with_reducible rfl
           rotate_left
           ·simp only [Act.put, List.setIfInBounds_toArray, List.set_cons_zero, List.set_cons_succ, i64_w, i32_w]
            rfl
           refine take_ (i := 1) (N := some 18) (v := ?_) (a' := ?_) #[true, true, true, false, true, false, false, false, true, false, false, false, false, false, false, false] rfl rfl (take_ofW HT_.out HW_.out (by kernel_rfl)) (fun _ _ _ h => h) (Or.inl ⟨by rfl, ?_⟩) hHeld ?_ ?_
           rotate_left
           ·rintro w' ⟨s0, s1, s2, s3, s4, s5, s6, s7, s8, s9, s10⟩
            go_simp
            with_reducible rfl
           rotate_left
           ·simp only [Act.put, List.setIfInBounds_toArray, List.set_cons_zero, List.set_cons_succ, i64_w, i32_w]
            rfl
           refine take_ (i := 3) (N := some 20) (v := ?_) (a' := ?_) #[true, true, true, true, true, false, false, false, true, false, false, false, false, false, false, false] rfl rfl (take_ofW HT_.out HW_.out (by kernel_rfl)) (fun _ _ _ h => h) (Or.inl ⟨by rfl, ?_⟩) hHeld ?_ ?_
           rotate_left
           ·rintro w' ⟨s0, s1, s2, s3, s4, s5, s6, s7, s8, s9, s10⟩
            go_simp
            with_reducible rfl
           rotate_left
           ·simp only [Act.put, List.setIfInBounds_toArray, List.set_cons_zero, List.set_cons_succ, i64_w, i32_w]
            rfl
           refine take_ (i := 5) (N := some 22) (v := ?_) (a' := ?_) #[true, true, true, true, true, true, false, false, true, false, false, false, false, false, false, false] rfl rfl (take_ofW HT_.out HW_.out (by kernel_rfl)) (fun _ _ _ h => h) (Or.inl ⟨by rfl, ?_⟩) hHeld ?_ ?_
           rotate_left
           ·rintro w' ⟨s0, s1, s2, s3, s4, s5, s6, s7, s8, s9, s10⟩
            go_simp
            with_reducible rfl
           rotate_left
           ·simp only [Act.put, List.setIfInBounds_toArray, List.set_cons_zero, List.set_cons_succ, i64_w, i32_w]
            rfl
           refine pure_ (i := 6) (N := some 23) (v := ?_) (a' := ?_) #[true, true, true, true, true, true, true, false, true, false, false, false, false, false, false, false] rfl rfl (any_of HT_.out (by kernel_rfl)) (fun _ _ _ h => h) (Or.inl ⟨by rfl, ?_⟩) ?_ ?_
           rotate_left
           ·intro w'
            go_simp
            with_reducible rfl
           rotate_left
           ·simp only [Act.put, List.setIfInBounds_toArray, List.set_cons_zero, List.set_cons_succ, i64_w, i32_w]
            rfl
           refine take_ (i := 7) (N := some 24) (v := ?_) (a' := ?_) #[true, true, true, true, true, true, true, true, true, false, false, false, false, false, false, false] rfl rfl (take_ofW HT_.out HW_.out (by kernel_rfl)) (fun _ _ _ h => h) (Or.inl ⟨by rfl, ?_⟩) hHeld ?_ ?_
           rotate_left
           ·rintro w' ⟨s0, s1, s2, s3, s4, s5, s6, s7, s8, s9, s10⟩
            go_simp
            with_reducible rfl
           rotate_left
           ·simp only [Act.put, List.setIfInBounds_toArray, List.set_cons_zero, List.set_cons_succ, i64_w, i32_w]
            rfl
           refine take_ (i := 9) (N := some 26) (v := ?_) (a' := ?_) #[true, true, true, true, true, true, true, true, true, true, false, false, false, false, false, false] rfl rfl (take_ofW HT_.out HW_.out (by kernel_rfl)) (fun _ _ _ h => h) (Or.inl ⟨by rfl, ?_⟩) hHeld ?_ ?_
           rotate_left
           ·rintro w' ⟨s0, s1, s2, s3, s4, s5, s6, s7, s8, s9, s10⟩
            go_simp
            with_reducible rfl
           rotate_left
           ·simp only [Act.put, List.setIfInBounds_toArray, List.set_cons_zero, List.set_cons_succ, i64_w, i32_w]
            rfl
           refine pure_ (i := 10) (N := some 27) (v := ?_) (a' := ?_) #[true, true, true, true, true, true, true, true, true, true, true, false, false, false, false, false] rfl rfl (any_of HT_.out (by kernel_rfl)) (fun _ _ _ h => h) (Or.inl ⟨by rfl, ?_⟩) ?_ ?_
           rotate_left
           ·intro w'
            go_simp
            with_reducible rfl
           rotate_left
           ·simp only [Act.put, List.setIfInBounds_toArray, List.set_cons_zero, List.set_cons_succ, i64_w, i32_w]
            rfl
           refine take_ (i := 11) (N := some 28) (v := ?_) (a' := ?_) #[true, true, true, true, true, true, true, true, true, true, true, true, false, false, false, false] rfl rfl (take_ofW HT_.out HW_.out (by kernel_rfl)) (fun _ _ _ h => h) (Or.inl ⟨by rfl, ?_⟩) hHeld ?_ ?_
           rotate_left
           ·rintro w' ⟨s0, s1, s2, s3, s4, s5, s6, s7, s8, s9, s10⟩
            go_simp
            with_reducible rfl
           rotate_left
           ·simp only [Act.put, List.setIfInBounds_toArray, List.set_cons_zero, List.set_cons_succ, i64_w, i32_w]
            rfl
           refine one_ (i := 12) (N := some 29) #[true, true, true, true, true, true, true, true, true, true, true, true, true, false, false, false] rfl rfl (one_of HT_.out (by kernel_rfl)) (by decide) (fun K hK => ?_)
           refine value_ (w1 := ?_) (v := ?_) (by rfl) rfl ?_ ?_
           rotate_left 2
           ·go_simp
            constructor
            ·rfl
            rfl
           refine hK.out _ _ ⟨(blk_cell (blk_alloc BK188.out _) 0).trans rfl, (blk_cell (blk_alloc BK188.out _) 1).trans rfl, (blk_cell (blk_alloc BK188.out _) 2).trans rfl, (blk_cell (blk_alloc BK183.out _) 0).trans rfl, (blk_cell (blk_alloc BK190.out _) 0).trans rfl, (blk_cell (blk_alloc BK190.out _) 1).trans rfl, (blk_cell (blk_alloc BK190.out _) 2).trans rfl, (World.cell?_alloc_lt _ _ _ (World.block_lt_of_cell? _ _ (hHeld.2.2.2.2.2.2.2.1))).trans (hHeld.2.2.2.2.2.2.2.1), (World.cell?_alloc_lt _ _ _ (World.block_lt_of_cell? _ _ (hHeld.2.2.2.2.2.2.2.2.1))).trans (hHeld.2.2.2.2.2.2.2.2.1), (World.cell?_alloc_lt _ _ _ (World.block_lt_of_cell? _ _ (hHeld.2.2.2.2.2.2.2.2.2.1))).trans (hHeld.2.2.2.2.2.2.2.2.2.1), (World.cell?_alloc_lt _ _ _ (World.block_lt_of_cell? _ _ (hHeld.2.2.2.2.2.2.2.2.2.2))).trans (hHeld.2.2.2.2.2.2.2.2.2.2)⟩ (fun hHeld => ?_)
           clear hK K
           refine norm_ (a' := ?_) ?_ ?_
           rotate_left
           ·show Act.put _ (some 29) _ = _
            simp only [Act.put, List.setIfInBounds_toArray, List.set_cons_zero, List.set_cons_succ, i64_w, i32_w]
            rfl
           refine last_ (i := 13) (N := some 30) #[true, true, true, true, true, true, true, true, true, true, true, true, true, true, false, false] rfl rfl (one_of HT_.out (by kernel_rfl)) (by decide) (fun K hK => ?_)
           refine Kd.R_append_step k70 (w0 := w) w.heap.size (by rfl) (.tmp 18) (.tmp 29) 55 70 (.agg #[(.int .i64 0), (.int .i64 0), (.int .i64 0)]) 24 rfl Try.underlying55 info70 rfl (by decide) (by omega) u00 x00_1 (⟨(rd_T70 (rd_L7 l0_0 ((rd_T80 t185 x13_1).f0)) ((rd_T80 t185 x13_1).f1)).f0, (rd_T70 (rd_L7 l0_0 ((rd_T80 t185 x13_1).f0)) ((rd_T80 t185 x13_1).f1)).f1, (rd_T70 (rd_L7 l0_0 ((rd_T80 t185 x13_1).f0)) ((rd_T80 t185 x13_1).f1)).f2⟩ : S70) [.int .i64 ((rd_T70 (rd_L7 l0_0 ((rd_T80 t185 x13_1).f0)) ((rd_T80 t185 x13_1).f1)).f0), .int .i64 ((rd_T70 (rd_L7 l0_0 ((rd_T80 t185 x13_1).f0)) ((rd_T80 t185 x13_1).f1)).f1), .int .i64 ((rd_T70 (rd_L7 l0_0 ((rd_T80 t185 x13_1).f0)) ((rd_T80 t185 x13_1).f1)).f2)] (fun k_ => (w.heap.size ≤ k_)) (fun _ => False) rfl rfl ?aP (fun _ hk => hk.elim) ?aF ?aO ?aB ?aS ?aL ?_
           (case aP => exact k70_mkM _ _ _ (⟨(rd_T70 (rd_L7 l0_0 ((rd_T80 t185 x13_1).f0)) ((rd_T80 t185 x13_1).f1)).f0, (rd_T70 (rd_L7 l0_0 ((rd_T80 t185 x13_1).f0)) ((rd_T80 t185 x13_1).f1)).f1, (rd_T70 (rd_L7 l0_0 ((rd_T80 t185 x13_1).f0)) ((rd_T80 t185 x13_1).f1)).f2⟩ : S70))
           (case aB => exact z20_7)
           (case aF => exact (fun k_ hk => (Nat.le_trans (below_size z20_7) hk)))
           (case aO => exact (ru HO_00.out))
           (case aS => exact (below_size z20_7))
           (case aL => have := LMc24.out; omega)
           intro v194 w32 ho hb hg hat
           rw [← Ny193.out] at ho
           replace HO_11 := am_ (Kd.R_over' (ru HO_11.out) (Kd.R_typed (ru HO_00.out)) (by decide) hg)
           replace HO_01 := am_ (Kd.V_afterv (ok := (fun k_ => (P0_0_ k_ ∨ w.heap.size ≤ k_) ∧ some k_ ≠ (.slice (some ad189) t185.length co10 : Value).ownBlock ∧ some k_ ≠ (.slice (some ad189) t185.length co10 : Value).ownBlock ∧ k_ ≠ gb183 ∧ k_ ≠ gb184 ∧ k_ ≠ gb188 ∧ k_ ≠ gb190)) (vu (Kd.V_mono HO_01.out (fun _ hk => ⟨⟨hk.1, ⟨hk.2.1, ⟨hk.2.2.1, ⟨hk.2.2.2.2.1, ⟨hk.2.2.2.2.2.1, ⟨hk.2.2.2.2.2.2.1, hk.2.2.2.2.2.2.2⟩⟩⟩⟩⟩⟩, hk.2.2.2.1⟩))) hg hat)
           replace HO_02 := am_ (Kd.V_afterv (ok := (fun k_ => (P0_0_ k_ ∨ w.heap.size ≤ k_) ∧ some k_ ≠ (.slice (some ad189) t185.length co10 : Value).ownBlock ∧ some k_ ≠ (.slice (some ad189) t185.length co10 : Value).ownBlock ∧ k_ ≠ gb183 ∧ k_ ≠ gb184 ∧ k_ ≠ gb188 ∧ k_ ≠ gb190)) (vu (Kd.V_mono HO_02.out (fun _ hk => ⟨⟨hk.1, ⟨hk.2.1, ⟨hk.2.2.1, ⟨hk.2.2.2.2.1, ⟨hk.2.2.2.2.2.1, ⟨hk.2.2.2.2.2.2.1, hk.2.2.2.2.2.2.2⟩⟩⟩⟩⟩⟩, hk.2.2.2.1⟩))) hg hat)
           replace HO_03 := am_ (Kd.R_over' (ru HO_03.out) (Kd.R_typed (ru HO_00.out)) (by decide) hg)
           replace BK183 := am_ (blk_grown (bu BK183.out) hg (Kd.R_ne HO_00.out BK183.out (by decide)))
           replace BK184 := am_ (blk_grown (bu BK184.out) hg (Kd.R_ne HO_00.out BK184.out (by decide)))
           replace BK188 := am_ (blk_grown (bu BK188.out) hg (Kd.R_ne HO_00.out BK188.out (by decide)))
           replace BK190 := am_ (blk_grown (bu BK190.out) hg (Kd.R_ne HO_00.out BK190.out (by decide)))
           replace HL191_0 := am_ (Kd.V_afterv (ok := (fun k_ => (P0_0_ k_ ∨ w.heap.size ≤ k_) ∧ some k_ ≠ (.slice (some ad189) t185.length co10 : Value).ownBlock ∧ some k_ ≠ (.slice (some ad189) t185.length co10 : Value).ownBlock ∧ k_ ≠ gb183 ∧ k_ ≠ gb184 ∧ k_ ≠ gb188 ∧ k_ ≠ gb190)) (vu (Kd.V_mono HL191_0.out (fun _ hk => ⟨⟨hk.1, ⟨hk.2.1, ⟨hk.2.2.1, ⟨hk.2.2.2.2.1, ⟨hk.2.2.2.2.2.1, ⟨hk.2.2.2.2.2.2.1, hk.2.2.2.2.2.2.2⟩⟩⟩⟩⟩⟩, hk.2.2.2.1⟩))) hg hat)
           replace HB := am_ (hb)
           have HO195 := am_ (ho)
           clear HO_00 ho hb hg hat
           obtain ⟨Ao33, co33, eo33⟩ := Kd.R_slice HO195.out
           (first | subst eo33 | (injection eo33 with f1_ f2_ f3_; have f4_ := f1_.symm; have f5_ := f3_.symm; clear f1_ f2_ f3_; subst f4_; subst f5_))
           refine hK.out _ _ ?_
           clear hK K
           refine norm_ (a' := ?_) ?_ ?_
           rotate_left
           ·show Act.put _ (some 30) _ = _
            simp only [Act.put, List.setIfInBounds_toArray, List.set_cons_zero, List.set_cons_succ, i64_w, i32_w]
            rfl
           refine pure_ (i := 14) (N := some 31) (v := ?_) (a' := ?_) #[true, true, true, true, true, true, true, true, true, true, true, true, true, true, true, false] rfl rfl (any_of HT_.out (by kernel_rfl)) (fun _ _ _ h => h) (Or.inl ⟨by rfl, ?_⟩) ?_ ?_
           rotate_left
           ·intro w'
            go_simp
            with_reducible rfl
           rotate_left
           ·simp only [Act.put, List.setIfInBounds_toArray, List.set_cons_zero, List.set_cons_succ, i64_w, i32_w]
            rfl
           refine last_ (i := 15) (N := none) #[true, true, true, true, true, true, true, true, true, true, true, true, true, true, true, true] rfl rfl (one_of HT_.out (by kernel_rfl)) (by decide) (fun K hK => ?_)
           have hs34 : w32.cell? ⟨gb188, 2, none⟩ = some (u00) := (blk_cell BK188.out 2).trans rfl
           have hfs34 := blk_frozen BK188.out 2
           have hns34_0 := NB183_188.out
           have hns34_1 := NB184_188.out
           have hns34_3 := NB190_188.out
           have hms34_0 := NB188_183.out
           have hms34_1 := NB188_184.out
           have hms34_3 := NB188_190.out
           refine skip_ (w1 := ?_) (by rfl) rfl ?_ ?_
           rotate_left
           ·go_simp
            rfl
           refine hK.out _ _ ?_
           clear hK K
           refine done_ (done_of HT_.out (by kernel_rfl)) ?_
           try go_wp2
           go_roundg k1
           case measure => have := HK1.out; omega
           case rel => exact ⟨(wrap64 (x13_1 + 1)), (y193), (.slice Ao33 y193.length co33), (by first | rfl | (simp; done) | (simp [*]; done)), H', ⟨by have := HK1.out; omega⟩, ⟨ru (Kd.R_mono (Kd.R_far (p := ⟨gb188, 2, none⟩) (Kd.R_types HO_11.out BK188.out (by decide)) (fun _ hk => hk.2) (.slice Ao33 y193.length co33)) (fun _ hk => hk.1.1))⟩, ⟨vu (Kd.V_mono (Kd.V_far (p := ⟨gb188, 2, none⟩) (Kd.V_mono HO_01.out (fun k_ hk => (⟨hk, hk.1.2.2.2.2.2.1⟩ : _ ∧ k_ ≠ gb188))) (fun _ hk => hk.2) (.slice Ao33 y193.length co33)) (fun _ hk => ⟨hk.1.1.1, ⟨hk.1.1.2.1, ⟨hk.1.1.2.2.1, ⟨hk.1.2, ⟨hk.1.1.2.2.2.1, ⟨hk.1.1.2.2.2.2.1, hk.1.1.2.2.2.2.2.1⟩⟩⟩⟩⟩⟩))⟩, ⟨vu (Kd.V_mono (Kd.V_far (p := ⟨gb188, 2, none⟩) (Kd.V_mono HO_02.out (fun k_ hk => (⟨hk, hk.1.2.2.2.2.2.1⟩ : _ ∧ k_ ≠ gb188))) (fun _ hk => hk.2) (.slice Ao33 y193.length co33)) (fun _ hk => ⟨hk.1.1.1, ⟨hk.1.1.2.1, ⟨hk.1.1.2.2.1, ⟨hk.1.2, ⟨hk.1.1.2.2.2.1, ⟨hk.1.1.2.2.2.2.1, hk.1.1.2.2.2.2.2.1⟩⟩⟩⟩⟩⟩))⟩, ⟨ru (Kd.R_mono (Kd.R_far (p := ⟨gb188, 2, none⟩) (Kd.R_types HO_03.out BK188.out (by decide)) (fun _ hk => hk.2) (.slice Ao33 y193.length co33)) (fun _ hk => hk.1.1))⟩, ⟨ru (Kd.R_mono (Kd.R_far (p := ⟨gb188, 2, none⟩) (Kd.R_types HO195.out BK188.out (by decide)) (fun _ hk => hk.2) (.slice Ao33 y193.length co33)) (fun _ hk => hk.1))⟩, ⟨by (with_reducible repeat (first | refine blk_drewN ?_ _ | refine blk_drew ?_ | refine blk_alloc ?_ _)); refine blk_far ?_ NB183_188.out _; (with_reducible repeat (first | refine blk_drewN ?_ _ | refine blk_drew ?_ | refine blk_alloc ?_ _)); exact BK183.out⟩, ⟨by (with_reducible repeat (first | refine blk_drewN ?_ _ | refine blk_drew ?_ | refine blk_alloc ?_ _)); refine blk_far ?_ NB184_188.out _; (with_reducible repeat (first | refine blk_drewN ?_ _ | refine blk_drew ?_ | refine blk_alloc ?_ _)); exact BK184.out⟩, ⟨by (with_reducible repeat (first | refine blk_drewN ?_ _ | refine blk_drew ?_ | refine blk_alloc ?_ _)); refine blk_put (cs := #[.slice (some ad191) l0_0.length c0_0, .slice (some ad189) t185.length co10, u00]) ?_ 2 _ rfl; (with_reducible repeat (first | refine blk_drewN ?_ _ | refine blk_drew ?_ | refine blk_alloc ?_ _)); exact BK188.out⟩, ⟨z20_7⟩⟩
          rw [if_neg c24] at H
          exact absurd H (by simp)
         rw [if_neg c23] at H
         exact absurd H (by simp)
        rw [if_neg c22] at H
        exact absurd H (by simp)
       rw [if_neg c21] at H
       exact absurd H (by simp)
      rw [if_neg c20] at H
      exact absurd H (by simp)
     rw [if_neg c19] at H
     exact absurd H (by simp)
    rw [if_neg c18] at H
    exact absurd H (by simp)
   rw [if_neg c17] at H
   have c17b0 : decide (x13_1 < (t185.length : Int)) = false := decide_eq_false c17
   clear c17
   simp only [Option.some.injEq, Prod.mk.injEq] at H
   obtain ⟨rfl, rfl, rfl⟩ := H
   have hnb35 := NB188_183.out
   have hnc35 := NB183_188.out
   have hnb36 := NB188_184.out
   have hnc36 := NB184_188.out
   have hcz37_0 := cf0 BK188.out
   have hcz37_1 := cf1 BK188.out
   have hcz37_2 := cf2 BK188.out
   have hfz37_0 := blk_frozen BK188.out 0
   have hfz37_1 := blk_frozen BK188.out 1
   have hfz37_2 := blk_frozen BK188.out 2
   have hnb38 := NB184_183.out
   have hnc38 := NB183_184.out
   have hcz39_0 := cf0 BK184.out
   have hcz39_1 := cf1 BK184.out
   have hcz39_2 := cf2 BK184.out
   have hfz39_0 := blk_frozen BK184.out 0
   have hfz39_1 := blk_frozen BK184.out 1
   have hfz39_2 := blk_frozen BK184.out 2
   obtain ⟨Ao40, co40, eo40⟩ := Kd.R_slice HO_00.out
   subst eo40
   go_wp2
   refine bodyPost_ret (results_cell_row rfl _ _ gb184 60 #[.slice A0_0 l0_0.length c0_0, .slice Ao10 t185.length co10, .slice Ao40 x00_1.length co40] (0, 0) _ rfl (by (with_reducible repeat (first | refine blk_drewN ?_ _ | refine blk_drew ?_ | refine blk_alloc ?_ _)); refine blk_put (cs := #[.slice A0_0 l0_0.length c0_0, .slice Ao10 t185.length co10, .slice none 0 0]) ?_ 2 _ rfl; (with_reducible repeat (first | refine blk_drewN ?_ _ | refine blk_drew ?_ | refine blk_alloc ?_ _)); refine blk_put (cs := #[.slice A0_0 l0_0.length c0_0, .slice none 0 0, .slice none 0 0]) ?_ 1 _ rfl; (with_reducible repeat (first | refine blk_drewN ?_ _ | refine blk_drew ?_ | refine blk_alloc ?_ _)); refine blk_put (cs := #[.slice none 0 0, .slice none 0 0, .slice none 0 0]) ?_ 0 _ rfl; (with_reducible repeat (first | refine blk_drewN ?_ _ | refine blk_drew ?_ | refine blk_alloc ?_ _)); exact BK184.out) Try.underlying60 rfl (by kernel_rfl)) rfl ?_
   exact ⟨_, _, _, by first | rfl | (simp [errW_none, errW_some] <;> rfl) | (simp [*, errW_none, errW_some] <;> rfl), vu (Kd.V_mono (Kd.V_far (p := ⟨gb184, 2, none⟩) (Kd.V_far (p := ⟨gb184, 1, none⟩) (Kd.V_far (p := ⟨gb184, 0, none⟩) (Kd.V_mono HO_02.out (fun k_ hk => (⟨hk, hk.2.2.2.2.2.1⟩ : _ ∧ k_ ≠ gb184))) (fun _ hk => hk.2) (.slice A0_0 l0_0.length c0_0)) (fun _ hk => hk.2) (.slice Ao10 t185.length co10)) (fun _ hk => hk.2) (.slice Ao40 x00_1.length co40)) (fun _ hk => ⟨hk.1.1, ⟨hk.1.2.2.1, hk.1.2.2.2.1⟩⟩)), ru (Kd.R_mono (Kd.R_far (p := ⟨gb184, 2, none⟩) (Kd.R_far (p := ⟨gb184, 1, none⟩) (Kd.R_far (p := ⟨gb184, 0, none⟩) (Kd.R_types HO_03.out BK184.out (by decide)) (fun _ hk => hk.2) (.slice A0_0 l0_0.length c0_0)) (fun _ hk => hk.2) (.slice Ao10 t185.length co10)) (fun _ hk => hk.2) (.slice Ao40 x00_1.length co40)) (fun _ hk => hk.1)), ru (Kd.R_mono (Kd.R_far (p := ⟨gb184, 2, none⟩) (Kd.R_far (p := ⟨gb184, 1, none⟩) (Kd.R_far (p := ⟨gb184, 0, none⟩) (Kd.R_types HO_00.out BK184.out (by decide)) (fun _ hk => hk.2) (.slice A0_0 l0_0.length c0_0)) (fun _ hk => hk.2) (.slice Ao10 t185.length co10)) (fun _ hk => hk.2) (.slice Ao40 x00_1.length co40)) (fun _ hk => hk.1)), z20_6⟩

end Go.Proofs.Ytmkchdlkpbnldaa.PB

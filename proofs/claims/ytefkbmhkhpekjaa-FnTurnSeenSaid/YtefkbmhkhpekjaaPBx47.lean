-- Written by this session's wip/myprint.py (the kit's print.py, with hand-written chunks). Lean checks it.
import Derived.Test.YtefkbmhkhpekjaaPBx0
import Derived.Test.YtefkbmhkhpekjaaPBx31
import Derived.Test.YtefkbmhkhpekjaaPBx97
import Derived.Test.YtefkbmhkhpekjaaPBx98
namespace Go.Proofs.Ytefkbmhkhpekjaa.PB
open Go.RowKit Go.Proofs.YtefkbmhkhpekjaaW.PrintWords Go.Proofs.YtefkbmhkhpekjaaW.PrintLast Go.Proofs.YtefkbmhkhpekjaaW.PrintMore
attribute [local go_sem] max2_int min2_int max_two min_two max_three min_three max_four min_four   -- for this text's walks alone
open Go.Proofs.YtefkbmhkhpekjaaMine
set_option linter.unusedVariables false
set_option linter.unusedSimpArgs false

theorem z47_1 {p : Prop} (h : p := by first | rfl | (simp; done) | (simp [*]; done)) : p := h
theorem z47_2 {p : Prop} (h : p := by first | (with_reducible assumption) | assumption) : p := h
theorem z47_3 {p : Prop} (h : p := by first | rfl | (simp [errW_none, errW_some] <;> rfl) | (simp [*, errW_none, errW_some] <;> rfl)) : p := h
theorem z47_4 {p : Prop} (h : p := by repeat (first | (with_reducible first | exact HB.out | apply below_alloc | apply pw_below_drewN | apply below_drew1) | exact HB.out)) : p := h
theorem z47_5 {p : Prop} (h : p := by first | exact Kd.S_nil _ _ _ _ _ | exact Kd.N_nil _ _ _ _ _ | exact Kd.V_nil _ _ _ _ _ | exact Kd.Q_nil _ _ _ _ _ | exact Kd.R_nil _ _ _ _ _) : p := h
theorem z47_6 {p : Prop} (h : p := by repeat (first | (with_reducible first | exact HB.out | apply below_alloc | apply pw_below_drewN | apply below_drew1 | refine below_set ?_ GE934.out) | exact HB.out)) : p := h
theorem z47_7 {p : Prop} (h : p := by repeat (first | (with_reducible first | exact HB.out | apply below_alloc | apply pw_below_drewN | apply below_drew1 | refine below_set ?_ GE934.out | refine below_set ?_ GE935.out) | exact HB.out)) : p := h
theorem z47_8 {p : Prop} (h : p := by repeat (first | (with_reducible first | exact HB.out | apply below_alloc | apply pw_below_drewN | apply below_drew1 | refine below_set ?_ GE934.out | refine below_set ?_ GE935.out | refine below_set ?_ GE938.out) | exact HB.out)) : p := h
theorem z47_9 {p : Prop} (h : p := by (with_reducible repeat (first | refine blk_drewN ?_ _ | refine blk_drew ?_ | refine blk_alloc ?_ _)); refine blk_put (cs := #[.slice none 0 0]) ?_ 0 _ rfl; (with_reducible repeat (first | refine blk_drewN ?_ _ | refine blk_drew ?_ | refine blk_alloc ?_ _)); exact BK935.out) : p := h
/-! ### impl_TurnThreads: function 47 -/
mutual
def impl_TurnThreads.j0 : Nat → List Int → Bool → List (List (S85)) → Option ((List (List (S85))) × Bool)
  | 0, _, _, _ => none
  | k + 1, x1, x19, x01 => if x19 = true then (some (([] : List (List (S85))), false)) else (impl_TurnThreads.l0 k x1 (x1.length : Int) 0 x01 ([] : List (List (S85))))
def impl_TurnThreads.l0 : Nat → List Int → Int → Int → List (List (S85)) → List (List (S85)) → Option ((List (List (S85))) × Bool)
  | 0, _, _, _, _, _ => none
  | k + 1, x21, x22, x23, x01, x00 => if x23 < x22 then (if 0 ≤ x23 then (if x23 < (x21.length : Int) then (if 0 ≤ (rd x21 x23) then (if (rd x21 x23) < (x01.length : Int) then ((impl_Do_98.f (rd_L7 x01 (rd x21 x23))).bind fun t941 => (if x00.length < 5864062014805 then (impl_TurnThreads.l0 k x21 x22 (wrap64 (x23 + 1)) x01 (x00 ++ [t941])) else (none))) else (none)) else (none)) else (none)) else (none)) else (some (x00, true))
end
def impl_TurnThreads.f (k : Nat) (l0_0 : List (List (S85))) (l1 : List Int) : Option ((List (List (S85))) × Bool) := (impl_ProgOk.f k l0_0).bind fun t936 => (if t936 = true then ((impl_isRow.f k l1 (l0_0.length : Int)).bind fun t937 => (impl_TurnThreads.j0 k l1 (!t937) l0_0)) else (impl_TurnThreads.j0 k l1 true l0_0))
def impl_TurnThreads.T7 : Bool × List (List Nat × List Nat) := (true, [([], []), ([0], [0]), ([], []), ([2], [2]), ([], []), ([3, 4], [3, 4]), ([5], [5]), ([6], [6]), ([7], [7]), ([1, 8, 7], [1, 8]), ([0, 1, 2, 3, 4, 5, 6, 7, 8, 9], []), ([10, 9, 9, 0, 1, 2, 3, 4, 5, 6, 7, 8, 9], [9, 10])])
def impl_TurnThreads.B7 : List Nat := [0, 1, 0, 4, 0, 28, 60, 124, 252, 511, 1023, 2047]
theorem impl_TurnThreads.tab7 : rtab .any (opsOf Try.f47 7) = impl_TurnThreads.T7 := by kernel_rfl
theorem impl_TurnThreads.bits7 : waitsOk impl_TurnThreads.T7.2 impl_TurnThreads.B7 = true := by kernel_rfl
set_option maxHeartbeats 8000000 in
set_option maxRecDepth 100000 in
theorem impl_TurnThreads.calls (k : Nat) (A0_0 : Option Addr) (c0_0 : Nat) (l0_0 : List (List (S85))) (A1 : Option Addr) (c1 : Nat) (l1 : List Int) (r1 : List (List (S85))) (r2 : Bool) (w : World) (hr0_0 : Kd.C (Kd.slice 85 k85) w A0_0 l0_0.length l0_0) (hc0_0 : l0_0.length ≤ c0_0) (hr1 : Kd.C (Kd.int .i64) w A1 l1.length l1) (hc1 : l1.length ≤ c1) (h : impl_TurnThreads.f k l0_0 l1 = some (r1, r2)) :
  Calls Try.prog 47 #[.agg #[.slice A0_0 l0_0.length c0_0], .slice A1 l1.length c1] w fun e w' => ∃ v0_ : Value, e = .returned (.tuple #[.agg #[v0_], .bool r2]) ∧ Kd.S (Kd.slice 85 k85) 82 w' w.heap.size (fun _ => True) v0_ r1 ∧ Below w.heap.size w w' := by
 have hu35 := Try.underlying35
 have HR0_0 := am_ hr0_0
 have HC0_0 := am_ hc0_0
 clear hr0_0 hc0_0
 have HR1 := am_ hr1
 have HC1 := am_ hc1
 clear hr1 hc1
 have HB := am_ (Below.refl w.heap.size w)
 have H : ((impl_ProgOk.f k l0_0).bind fun t936 => (if t936 = true then ((impl_isRow.f k l1 (l0_0.length : Int)).bind fun t937 => (impl_TurnThreads.j0 k l1 (!t937) l0_0)) else (impl_TurnThreads.j0 k l1 true l0_0))) = some (r1, r2) := h
 clear h
 have HC3 := am_ H
 clear H
 go_enter Try.func47, Try.ntmps47
 go_upto_region 1 with (first | ((with_reducible refine gate_dst (N := 2) rfl ?_); (try (refine gate_guard (by rfl) ?_; dsimp only)); refine box_event ?hg (N := 2) ?hd (cs := #[.slice A0_0 l0_0.length c0_0]) (t := 35) ?hr ?_; (case hd => rfl); (case hg => rfl); (case hr => first | (go_simp; done) | (go_simp; rfl)); intro gb934 hg w4 hbox hb; have n0_ := am_ (below_step z47_4 hb); have n1_ := am_ (hbox); have n2_ := am_ (by rw [hg]; exact (below_size z47_4) : w.heap.size ≤ gb934); have n3_ := am_ (by rw [hg]; exact (below_size z47_4) : w.heap.size ≤ gb934); clear HB; have HB := n0_; have BK934 := n1_; have GW934 := n2_; have GE934 := n3_; clear n0_ n1_ n2_ n3_; clear hb hbox hg) | ((with_reducible refine gate_dst (N := 4) rfl ?_); (try (refine gate_guard (by rfl) ?_; dsimp only)); refine box_event ?hg (N := 4) ?hd (cs := #[.slice none 0 0]) (t := 35) ?hr ?_; (case hd => rfl); (case hg => rfl); (case hr => first | (go_simp; done) | (go_simp; rfl)); intro gb935 hg w5 hbox hb; have n0_ := am_ (blk_below (bu BK934.out) hb); have n1_ := am_ (below_step z47_6 hb); have n2_ := am_ (hbox); have n3_ := am_ (by rw [hg]; exact (below_size z47_6) : w.heap.size ≤ gb935); have n4_ := am_ (by rw [hg]; exact (below_size z47_6) : w.heap.size ≤ gb935); have n5_ := am_ (by rw [hg]; exact Nat.ne_of_lt (blk_lt (bu BK934.out)) : gb934 ≠ gb935); have n6_ := am_ (by rw [hg]; exact Nat.ne_of_gt (blk_lt (bu BK934.out)) : gb935 ≠ gb934); clear BK934 HB; have BK934 := n0_; have HB := n1_; have BK935 := n2_; have GW935 := n3_; have GE935 := n4_; have NB934_935 := n5_; have NB935_934 := n6_; clear n0_ n1_ n2_ n3_ n4_ n5_ n6_; clear hb hbox hg))
 (try simp only [Act.put, List.setIfInBounds_toArray, List.set_cons_zero, List.set_cons_succ])
 go_cut [19] (fun v19 wc => ∃ (kq : Nat) (x19_2 : Bool), v19 = .bool x19_2 ∧ Aside0 (impl_TurnThreads.j0 kq l1 x19_2 l0_0 = some (r1, r2)) ∧ Aside0 (kq ≤ k) ∧ Aside0 (wc.heap[gb934]? = some (.cells #[(.slice A0_0 l0_0.length c0_0)] 35 (0, 0))) ∧ Aside0 (wc.heap[gb935]? = some (.cells #[(.slice none 0 0)] 35 (0, 0))) ∧ Aside0 (Below w.heap.size w wc))
 case first =>
  have H := HC3.out
  clear HC3
  replace H := Option.bind_eq_some_iff.mp H
  obtain ⟨t936, A60, H⟩ := H
  replace H : (if t936 = true then ((impl_isRow.f k l1 (l0_0.length : Int)).bind fun t937 => (impl_TurnThreads.j0 k l1 (!t937) l0_0)) else (impl_TurnThreads.j0 k l1 true l0_0)) = some (r1, r2) := H
  have A6 := am_ A60
  clear A60
  by_cases c7 : t936 = true
  ·subst c7
   have H1 : ((impl_isRow.f k l1 (l0_0.length : Int)).bind fun t937 => (impl_TurnThreads.j0 k l1 (!t937) l0_0)) = some (r1, r2) := by rw [if_pos rfl] at H; exact H
   clear H
   have H := H1
   clear H1
   replace H := Option.bind_eq_some_iff.mp H
   obtain ⟨t937, A80, H⟩ := H
   replace H : (impl_TurnThreads.j0 k l1 (!t937) l0_0) = some (r1, r2) := H
   have A8 := am_ A80
   clear A80
   have H' := am_ H
   clear H
   have hnb9 := NB934_935.out
   have hnc9 := NB935_934.out
   have hcz10_0 := cf0 BK934.out
   have hfz10_0 := blk_frozen BK934.out 0
   go_wp2_with (first | ((with_reducible refine gate_callee (f := 31) rfl ?_); refine goesL_ (some 10) rfl rfl Try.func31 (by kernel_rfl) rfl #[.agg #[.slice A0_0 l0_0.length c0_0]] rfl (by (try simp only [List.map_toArray, List.map_cons, List.map_nil]); first | done | rfl | (simp only [List.length_drop, List.length_take]; rfl)) ?_; (with_reducible refine (impl_ProgOk.calls k _ _ l0_0 true _ ?side1 ?side2 A6.out).mono ?_); (case side1 => repeat (first | exact (Kd.C_below HR0_0.out HB.out) | (with_reducible refine Kd.C_alloc ?_ _) | (with_reducible refine Kd.C_drewN ?_ _) | (with_reducible refine Kd.C_drew ?_))); (case side2 => exact HC0_0.out); rintro e w11 ⟨rfl, hb⟩; refine ⟨_, rfl, ?_⟩; replace BK934 := am_ (blk_below (bu BK934.out) hb); replace BK935 := am_ (blk_below (bu BK935.out) hb); replace HB := am_ (below_step z47_7 hb); (try clear hb); (try clear hb2); (try clear hk); (try clear hi); have hcz12_0 := cf0 BK934.out; have hfz12_0 := blk_frozen BK934.out 0) | (go_at_call 97; (with_reducible refine (impl_isRow.calls k _ _ l1 (l0_0.length : Int) t937 _ ?side1 ?side2 A8.out).mono ?_); (case side1 => repeat (first | exact (Kd.C_below HR1.out HB.out) | (with_reducible refine Kd.C_alloc ?_ _) | (with_reducible refine Kd.C_drewN ?_ _) | (with_reducible refine Kd.C_drew ?_))); (case side2 => exact HC1.out); rintro e w' ⟨rfl, ⟨nd, rfl⟩⟩))
   go_meet
   case rel => exact ⟨_, (!t937), z47_1, H', ⟨by first | omega | exact Nat.le_refl _⟩, ⟨bu BK934.out⟩, ⟨bu BK935.out⟩, ⟨z47_7⟩⟩
  replace c7 := Bool.eq_false_iff.mpr c7
  subst c7
  have H1 : (impl_TurnThreads.j0 k l1 true l0_0) = some (r1, r2) := by rw [if_neg (show ¬ (false = true) by decide)] at H; exact H
  clear H
  have H := H1
  clear H1
  have H' := am_ H
  clear H
  have hnb13 := NB934_935.out
  have hnc13 := NB935_934.out
  have hcz14_0 := cf0 BK934.out
  have hfz14_0 := blk_frozen BK934.out 0
  go_wp2_with (first | ((with_reducible refine gate_callee (f := 31) rfl ?_); refine goesL_ (some 10) rfl rfl Try.func31 (by kernel_rfl) rfl #[.agg #[.slice A0_0 l0_0.length c0_0]] rfl (by (try simp only [List.map_toArray, List.map_cons, List.map_nil]); first | done | rfl | (simp only [List.length_drop, List.length_take]; rfl)) ?_; (with_reducible refine (impl_ProgOk.calls k _ _ l0_0 false _ ?side1 ?side2 A6.out).mono ?_); (case side1 => repeat (first | exact (Kd.C_below HR0_0.out HB.out) | (with_reducible refine Kd.C_alloc ?_ _) | (with_reducible refine Kd.C_drewN ?_ _) | (with_reducible refine Kd.C_drew ?_))); (case side2 => exact HC0_0.out); rintro e w15 ⟨rfl, hb⟩; refine ⟨_, rfl, ?_⟩; replace BK934 := am_ (blk_below (bu BK934.out) hb); replace BK935 := am_ (blk_below (bu BK935.out) hb); replace HB := am_ (below_step z47_7 hb); (try clear hb); (try clear hb2); (try clear hk); (try clear hi)))
  go_meet
  case rel => exact ⟨_, (true), z47_1, H', ⟨by first | omega | exact Nat.le_refl _⟩, ⟨bu BK934.out⟩, ⟨bu BK935.out⟩, ⟨z47_7⟩⟩
 case rest =>
  clear HC3
  obtain ⟨kq, x19_2, rfl, HA, HJ2, BK934, BK935, HB⟩ := hcut
  cases kq with
  | zero => exact absurd HA.out (by simp [impl_TurnThreads.j0])
  | succ kj2 =>
   have H := HA.out
   clear HA
   simp only [impl_TurnThreads.j0] at H
   by_cases c16 : x19_2 = true
   ·subst c16
    have H1 : (some (([] : List (List (S85))), false)) = some (r1, r2) := by rw [if_pos rfl] at H; exact H
    clear H
    have H := H1
    clear H1
    simp only [Option.some.injEq, Prod.mk.injEq] at H
    obtain ⟨rfl, rfl⟩ := H
    have hnb17 := NB935_934.out
    have hnc17 := NB934_935.out
    have hcz18_0 := cf0 BK935.out
    have hfz18_0 := blk_frozen BK935.out 0
    go_wp2
    refine bodyPost_ret (results_ct rfl _ _ gb935 35 #[.slice none 0 0] (0, 0) _ rfl z47_9 Try.underlying35 rfl (by kernel_rfl)) rfl ?_
    exact ⟨_, z47_3, z47_5, z47_7⟩
   replace c16 := Bool.eq_false_iff.mpr c16
   subst c16
   have H1 : (impl_TurnThreads.l0 kj2 l1 (l1.length : Int) 0 l0_0 ([] : List (List (S85)))) = some (r1, r2) := by rw [if_neg (show ¬ (false = true) by decide)] at H; exact H
   clear H
   have H := H1
   clear H1
   have H' := am_ H
   clear H
   go_wp2_with (first | ((with_reducible refine gate_dst (N := 6) rfl ?_); (try (refine gate_guard (by rfl) ?_; dsimp only)); refine box_event ?hg (N := 6) ?hd (cs := #[.slice none 0 0]) (t := 35) ?hr ?_; (case hd => rfl); (case hg => rfl); (case hr => first | (go_simp; done) | (go_simp; rfl)); intro gb938 hg w19 hbox hb; have n0_ := am_ (blk_below (bu BK934.out) hb); have n1_ := am_ (blk_below (bu BK935.out) hb); have n2_ := am_ (below_step z47_7 hb); have n3_ := am_ (hbox); have n4_ := am_ (by rw [hg]; exact (below_size z47_7) : w.heap.size ≤ gb938); have n5_ := am_ (by rw [hg]; exact (below_size z47_7) : w.heap.size ≤ gb938); have n6_ := am_ (by rw [hg]; exact Nat.ne_of_lt (blk_lt (bu BK934.out)) : gb934 ≠ gb938); have n7_ := am_ (by rw [hg]; exact Nat.ne_of_gt (blk_lt (bu BK934.out)) : gb938 ≠ gb934); have n8_ := am_ (by rw [hg]; exact Nat.ne_of_lt (blk_lt (bu BK935.out)) : gb935 ≠ gb938); have n9_ := am_ (by rw [hg]; exact Nat.ne_of_gt (blk_lt (bu BK935.out)) : gb938 ≠ gb935); clear BK934 BK935 HB; have BK934 := n0_; have BK935 := n1_; have HB := n2_; have BK938 := n3_; have GW938 := n4_; have GE938 := n5_; have NB934_938 := n6_; have NB938_934 := n7_; have NB935_938 := n8_; have NB938_935 := n9_; clear n0_ n1_ n2_ n3_ n4_ n5_ n6_ n7_ n8_ n9_; clear hb hbox hg))
   go_loopg [23] kj2 (fun kq v23 w' => ∃ (x23_2 : Int) (x00_2 : List (List (S85))) (u00 : Value), v23 = .int .i64 x23_2 ∧ Aside0 (impl_TurnThreads.l0 kq l1 (l1.length : Int) x23_2 l0_0 x00_2 = some (r1, r2)) ∧ Aside0 (kq ≤ kj2) ∧ Aside0 (Kd.S (Kd.slice 85 k85) 82 w' w.heap.size (fun _ => True) u00 x00_2) ∧ Aside0 (w'.heap[gb934]? = some (.cells #[(.slice A0_0 l0_0.length c0_0)] 35 (0, 0))) ∧ Aside0 (w'.heap[gb935]? = some (.cells #[(.slice none 0 0)] 35 (0, 0))) ∧ Aside0 (w'.heap[gb938]? = some (.cells #[u00] 35 (0, 0))) ∧ Aside0 (Below w.heap.size w w'))
   case atStart => exact ⟨(0), (([] : List (List (S85)))), (.slice none 0 0), z47_1, H', ⟨Nat.le_refl _⟩, ⟨z47_5⟩, ⟨bu BK934.out⟩, ⟨bu BK935.out⟩, ⟨bu BK938.out⟩, ⟨z47_8⟩⟩
   case round =>
    clear H'
    obtain ⟨x23_2, x00_2, u00, rfl, HA, HK2, HO_00, BK934, BK935, BK938, HB⟩ := hrel
    cases gk with
    | zero => exact absurd HA.out (by simp [impl_TurnThreads.l0])
    | succ k2 =>
     have H := HA.out
     clear HA
     simp only [impl_TurnThreads.l0] at H
     by_cases c20 : x23_2 < (l1.length : Int)
     ·rw [if_pos c20] at H
      have c20b0 : decide (x23_2 < (l1.length : Int)) = true := decide_eq_true c20
      clear c20
      by_cases c21 : 0 ≤ x23_2
      ·rw [if_pos c21] at H
       have c21b0 : decide (0 ≤ x23_2) = true := decide_eq_true c21
       clear c21
       by_cases c22 : x23_2 < (l1.length : Int)
       ·rw [if_pos c22] at H
        have c22b0 : decide (x23_2 < (l1.length : Int)) = true := decide_eq_true c22
        clear c22
        by_cases c23 : 0 ≤ (rd l1 x23_2)
        ·rw [if_pos c23] at H
         have c23b0 : decide (0 ≤ (rd l1 x23_2)) = true := decide_eq_true c23
         clear c23
         by_cases c24 : (rd l1 x23_2) < (l0_0.length : Int)
         ·rw [if_pos c24] at H
          have c24b0 : decide ((rd l1 x23_2) < (l0_0.length : Int)) = true := decide_eq_true c24
          clear c24
          replace H := Option.bind_eq_some_iff.mp H
          obtain ⟨t941, A250, H⟩ := H
          replace H : (if x00_2.length < 5864062014805 then (impl_TurnThreads.l0 k2 l1 (l1.length : Int) (wrap64 (x23_2 + 1)) l0_0 (x00_2 ++ [t941])) else (none)) = some (r1, r2) := H
          have A25 := am_ A250
          clear A250
          by_cases c26 : x00_2.length < 5864062014805
          ·rw [if_pos c26] at H
           have LMc26 := am_ c26
           clear c26
           obtain ⟨y944, hy944⟩ : ∃ y_ : List (List (S85)), y_ = (x00_2 ++ [t941]) := ⟨_, rfl⟩
           replace H : (impl_TurnThreads.l0 k2 l1 (l1.length : Int) (wrap64 (x23_2 + 1)) l0_0 y944) = some (r1, r2) := by first | (rw [hy944]; with_reducible exact H) | (have H2_ := (Option.bind_some _ _).symm.trans H; rw [hy944]; with_reducible exact H2_) | (have H2_ := (Option.bind_some _ _).symm.trans H; with_reducible exact H2_) | with_reducible exact H | (rw [hy944]; exact H) | exact H
           have Ny944 := am_ hy944
           clear hy944
           have H' := am_ H
           clear H
           have p939 : 0 ≤ (x23_2 : Int) := of_decide_eq_true z47_2
           have q939 : x23_2 < (l1.length : Int) := of_decide_eq_true z47_2
           obtain ⟨ad939, e939, hx939_0⟩ := Kd.at_int HR1.out x23_2 p939 q939
           cases e939
           replace hx939_0 := (HB.out.cell (World.block_lt_of_cell? w _ hx939_0)).trans hx939_0
           replace p939 := eq_true p939
           replace q939 := eq_true q939
           try go_wp2
           replace HO_00 := am_ (Kd.S_drew HO_00.out)
           replace BK934 := am_ (blk_drew BK934.out)
           replace BK935 := am_ (blk_drew BK935.out)
           replace BK938 := am_ (blk_drew BK938.out)
           replace HB := am_ (below_drew1 HB.out)
           have p940 : 0 ≤ ((rd l1 x23_2) : Int) := of_decide_eq_true z47_2
           have q940 : (rd l1 x23_2) < (l0_0.length : Int) := of_decide_eq_true z47_2
           obtain ⟨ad940, A940_0, c940_0, e940, hx940_0, hl940_0, hi940_0⟩ := at_L7 HR0_0.out (rd l1 x23_2) p940 q940
           have hw940_0 := hx940_0
           cases e940
           replace hx940_0 := (HB.out.cell (World.block_lt_of_cell? w _ hx940_0)).trans hx940_0
           have HR940_0 := am_ hi940_0
           have HC940_0 := am_ hl940_0
           clear hi940_0 hl940_0
           replace p940 := eq_true p940
           replace q940 := eq_true q940
           refine start_ (n := 12) (S := fun w' => w'.cell? ⟨gb938, 0, none⟩ = some (u00) ∧ w'.cell? ⟨gb934, 0, none⟩ = some (.slice (some ad940) l0_0.length c0_0) ∧ w'.cell? (ad940.add ((rd l1 x23_2)).toNat) = some (.slice A940_0 (rd_L7 l0_0 (rd l1 x23_2)).length c940_0)) (ds := [11]) #[false, false, false, false, false, false, false, false, false, false, false, false] (by kernel_rfl) rfl rfl ⟨(blk_cell BK938.out 0).trans rfl, (blk_cell BK934.out 0).trans rfl, ((HB.out.cell (World.block_lt_of_cell? w _ hw940_0)).trans hw940_0)⟩ (fun hHeld => ?_); refine with_tabW impl_TurnThreads.tab7 impl_TurnThreads.bits7 (fun HT_ HW_ => ?_)
           generalize wr.drew = w27 at HO_00 BK934 BK935 BK938 HB HR940_0 hx940_0 hHeld ⊢
           refine pure_ (i := 0) (N := some 27) (v := ?_) (a' := ?_) #[true, false, false, false, false, false, false, false, false, false, false, false] rfl rfl (any_of HT_.out (by kernel_rfl)) (fun _ _ _ h => h) (Or.inl ⟨by rfl, ?_⟩) ?_ ?_
           rotate_left
           ·intro w'
            go_simp
            with_reducible rfl
           rotate_left
           ·simp only [Act.put, List.setIfInBounds_toArray, List.set_cons_zero, List.set_cons_succ, i64_w, i32_w]
            rfl
           refine pure_ (i := 2) (N := some 29) (v := ?_) (a' := ?_) #[true, false, true, false, false, false, false, false, false, false, false, false] rfl rfl (any_of HT_.out (by kernel_rfl)) (fun _ _ _ h => h) (Or.inl ⟨by rfl, ?_⟩) ?_ ?_
           rotate_left
           ·intro w'
            go_simp
            with_reducible rfl
           rotate_left
           ·simp only [Act.put, List.setIfInBounds_toArray, List.set_cons_zero, List.set_cons_succ, i64_w, i32_w]
            rfl
           refine pure_ (i := 4) (N := some 31) (v := ?_) (a' := ?_) #[true, false, true, false, true, false, false, false, false, false, false, false] rfl rfl (any_of HT_.out (by kernel_rfl)) (fun _ _ _ h => h) (Or.inl ⟨by rfl, ?_⟩) ?_ ?_
           rotate_left
           ·intro w'
            go_simp
            with_reducible rfl
           rotate_left
           ·simp only [Act.put, List.setIfInBounds_toArray, List.set_cons_zero, List.set_cons_succ, i64_w, i32_w]
            rfl
           refine take_ (i := 1) (N := some 28) (v := ?_) (a' := ?_) #[true, true, true, false, true, false, false, false, false, false, false, false] rfl rfl (take_ofW HT_.out HW_.out (by kernel_rfl)) (fun _ _ _ h => h) (Or.inl ⟨by rfl, ?_⟩) hHeld ?_ ?_
           rotate_left
           ·rintro w' ⟨s0, s1, s2⟩
            go_simp
            with_reducible rfl
           rotate_left
           ·simp only [Act.put, List.setIfInBounds_toArray, List.set_cons_zero, List.set_cons_succ, i64_w, i32_w]
            rfl
           refine take_ (i := 3) (N := some 30) (v := ?_) (a' := ?_) #[true, true, true, true, true, false, false, false, false, false, false, false] rfl rfl (take_ofW HT_.out HW_.out (by kernel_rfl)) (fun _ _ _ h => h) (Or.inl ⟨by rfl, ?_⟩) hHeld ?_ ?_
           rotate_left
           ·rintro w' ⟨s0, s1, s2⟩
            go_simp
            with_reducible rfl
           rotate_left
           ·simp only [Act.put, List.setIfInBounds_toArray, List.set_cons_zero, List.set_cons_succ, i64_w, i32_w]
            rfl
           refine pure_ (i := 5) (N := some 32) (v := ?_) (a' := ?_) #[true, true, true, true, true, true, false, false, false, false, false, false] rfl rfl (any_of HT_.out (by kernel_rfl)) (fun _ _ _ h => h) (Or.inl ⟨by rfl, ?_⟩) ?_ ?_
           rotate_left
           ·intro w'
            go_simp
            with_reducible rfl
           rotate_left
           ·simp only [Act.put, List.setIfInBounds_toArray, List.set_cons_zero, List.set_cons_succ, i64_w, i32_w]
            rfl
           refine take_ (i := 6) (N := some 33) (v := ?_) (a' := ?_) #[true, true, true, true, true, true, true, false, false, false, false, false] rfl rfl (take_ofW HT_.out HW_.out (by kernel_rfl)) (fun _ _ _ h => h) (Or.inl ⟨by rfl, ?_⟩) hHeld ?_ ?_
           rotate_left
           ·rintro w' ⟨s0, s1, s2⟩
            go_simp
            with_reducible rfl
           rotate_left
           ·simp only [Act.put, List.setIfInBounds_toArray, List.set_cons_zero, List.set_cons_succ, i64_w, i32_w]
            rfl
           refine one_ (i := 7) (N := some 34) #[true, true, true, true, true, true, true, true, false, false, false, false] rfl rfl (one_of HT_.out (by kernel_rfl)) (by decide) (fun K hK => ?_)
           refine goes_ Try.func98 (by kernel_rfl) rfl #[.slice A940_0 (rd_L7 l0_0 (rd l1 x23_2)).length c940_0] (by rfl) rfl rfl (by (try simp only [List.map_toArray, List.map_cons, List.map_nil]); first | done | rfl | (simp only [List.length_drop, List.length_take]; rfl)) ?_
           with_reducible refine (impl_Do_98.calls _ _ (rd_L7 l0_0 (rd l1 x23_2)) t941 _ ?side1 ?side2 A25.out).mono ?_
           (case side1 => repeat (first | exact (Kd.C_below HR940_0.out HB.out) | (with_reducible refine Kd.C_alloc ?_ _) | (with_reducible refine Kd.C_drewN ?_ _) | (with_reducible refine Kd.C_drew ?_)))
           (case side2 => exact HC940_0.out)
           rintro e w28 ⟨v942, rfl, ho0, hb⟩
           refine ⟨_, rfl, ?_⟩
           replace HO_00 := am_ (Kd.S_elder' (su HO_00.out) (Kd.R_base ho0) hb)
           have HO943 := am_ (Kd.R_lower ho0 (below_size z47_8))
           replace BK934 := am_ (blk_below (bu BK934.out) hb)
           replace BK935 := am_ (blk_below (bu BK935.out) hb)
           replace BK938 := am_ (blk_below (bu BK938.out) hb)
           replace HB := am_ (below_step z47_8 hb)
           (try clear hb)
           (try clear hb2)
           (try clear hk)
           (try clear hi)
           (try clear ho0)
           obtain ⟨Ao30, co30, eo30⟩ := Kd.R_slice HO943.out
           (first | subst eo30 | (injection eo30 with f1_ f2_ f3_; have f4_ := f1_.symm; have f5_ := f3_.symm; clear f1_ f2_ f3_; subst f4_; subst f5_))
           refine hK.out _ _ ⟨(blk_cell BK938.out 0).trans rfl, (blk_cell BK934.out 0).trans rfl, ((HB.out.cell (World.block_lt_of_cell? w _ hw940_0)).trans hw940_0)⟩ (fun hHeld => ?_)
           clear hK K
           refine norm_ (a' := ?_) ?_ ?_
           rotate_left
           ·show Act.put _ (some 34) _ = _
            simp only [Act.put, List.setIfInBounds_toArray, List.set_cons_zero, List.set_cons_succ, i64_w, i32_w]
            rfl
           refine one_ (i := 8) (N := some 35) #[true, true, true, true, true, true, true, true, true, false, false, false] rfl rfl (one_of HT_.out (by kernel_rfl)) (by decide) (fun K hK => ?_)
           refine value_ (w1 := ?_) (v := ?_) (by rfl) rfl ?_ ?_
           rotate_left 2
           ·go_simp
            constructor
            ·rfl
            rfl
           refine hK.out _ _ ⟨(blk_cell (blk_alloc BK938.out _) 0).trans rfl, (blk_cell (blk_alloc BK934.out _) 0).trans rfl, (World.cell?_alloc_lt _ _ _ (World.block_lt_of_cell? _ _ (((HB.out.cell (World.block_lt_of_cell? w _ hw940_0)).trans hw940_0)))).trans (((HB.out.cell (World.block_lt_of_cell? w _ hw940_0)).trans hw940_0))⟩ (fun hHeld => ?_)
           clear hK K
           refine norm_ (a' := ?_) ?_ ?_
           rotate_left
           ·show Act.put _ (some 35) _ = _
            simp only [Act.put, List.setIfInBounds_toArray, List.set_cons_zero, List.set_cons_succ, i64_w, i32_w]
            rfl
           refine one_ (i := 9) (N := some 36) #[true, true, true, true, true, true, true, true, true, true, false, false] rfl rfl (one_of HT_.out (by kernel_rfl)) (by decide) (fun K hK => ?_)
           refine Kd.S_append_step (Kd.slice 85 k85) (w0 := w) w.heap.size (by rfl) (.tmp 28) (.tmp 35) 33 82 (.slice none 0 0) 24 rfl Try.underlying33 info82 rfl (by decide) (by omega) u00 x00_2 t941 [.slice Ao30 t941.length co30] (fun _ => True) (fun k_ => some k_ = (.slice Ao30 t941.length co30 : Value).ownBlock) rfl rfl ?aP (fun k_ hk_ => ((Kd.R_mono (ok' := fun k_ => ((fun _ => True)) k_ ∧ some k_ ≠ (u00 : Value).ownBlock) (Kd.R_apart' (HO943.out) (Kd.S_typed HO_00.out) (by decide)) (fun k_ hk => ⟨trivial, hk.2⟩))).1 k_ hk_.symm) ?aF ?aO ?aB ?aS ?aL ?_
           (case aP => exact Kd.M_row (Kd.R_mono (Kd.R_tight rfl (Kd.R_mono (ok' := fun k_ => ((fun _ => True)) k_ ∧ some k_ ≠ (u00 : Value).ownBlock) (Kd.R_apart' (HO943.out) (Kd.S_typed HO_00.out) (by decide)) (fun k_ hk => ⟨trivial, hk.2⟩))) (fun _ h_ => h_)))
           (case aB => exact z47_8)
           (case aF => exact (fun _ _ => trivial))
           (case aO => exact (su (Kd.S_mono HO_00.out (fun k_ hk => ⟨trivial, fun e_ => hk.2 e_⟩))))
           (case aS => exact (below_size z47_8))
           (case aL => have := LMc26.out; omega)
           intro v945 w29 ho hb hg hat
           rw [← Ny944.out] at ho
           replace BK934 := am_ (blk_grown (bu BK934.out) hg (Kd.S_ne HO_00.out BK934.out (by decide)))
           replace BK935 := am_ (blk_grown (bu BK935.out) hg (Kd.S_ne HO_00.out BK935.out (by decide)))
           replace BK938 := am_ (blk_grown (bu BK938.out) hg (Kd.S_ne HO_00.out BK938.out (by decide)))
           replace HB := am_ (hb)
           have HO946 := am_ (ho)
           clear HO_00 HO943 ho hb hg hat
           obtain ⟨Ao31, co31, eo31⟩ := Kd.S_slice HO946.out
           (first | subst eo31 | (injection eo31 with f1_ f2_ f3_; have f4_ := f1_.symm; have f5_ := f3_.symm; clear f1_ f2_ f3_; subst f4_; subst f5_))
           refine hK.out _ _ ⟨(blk_cell BK938.out 0).trans rfl, (blk_cell BK934.out 0).trans rfl, ((HB.out.cell (World.block_lt_of_cell? w _ hw940_0)).trans hw940_0)⟩ (fun hHeld => ?_)
           clear hK K
           refine norm_ (a' := ?_) ?_ ?_
           rotate_left
           ·show Act.put _ (some 36) _ = _
            simp only [Act.put, List.setIfInBounds_toArray, List.set_cons_zero, List.set_cons_succ, i64_w, i32_w]
            rfl
           refine pure_ (i := 10) (N := some 37) (v := ?_) (a' := ?_) #[true, true, true, true, true, true, true, true, true, true, true, false] rfl rfl (any_of HT_.out (by kernel_rfl)) (fun _ _ _ h => h) (Or.inl ⟨by rfl, ?_⟩) ?_ ?_
           rotate_left
           ·intro w'
            go_simp
            with_reducible rfl
           rotate_left
           ·simp only [Act.put, List.setIfInBounds_toArray, List.set_cons_zero, List.set_cons_succ, i64_w, i32_w]
            rfl
           refine last_ (i := 11) (N := none) #[true, true, true, true, true, true, true, true, true, true, true, true] rfl rfl (one_of HT_.out (by kernel_rfl)) (by decide) (fun K hK => ?_)
           have hs32 : w29.cell? ⟨gb938, 0, none⟩ = some (u00) := (blk_cell BK938.out 0).trans rfl
           have hfs32 := blk_frozen BK938.out 0
           have hns32_0 := NB934_938.out
           have hns32_1 := NB935_938.out
           have hms32_0 := NB938_934.out
           have hms32_1 := NB938_935.out
           refine skip_ (w1 := ?_) (by rfl) rfl ?_ ?_
           rotate_left
           ·go_simp
            rfl
           refine hK.out _ _ ?_
           clear hK K
           refine done_ (done_of HT_.out (by kernel_rfl)) ?_
           try go_wp2
           go_roundg k2
           case measure => have := HJ2.out; have := HK2.out; omega
           case rel => exact ⟨(wrap64 (x23_2 + 1)), (y944), (.slice Ao31 y944.length co31), z47_1, H', ⟨by have := HJ2.out; have := HK2.out; omega⟩, ⟨su (Kd.S_mono (Kd.S_far (p := ⟨gb938, 0, none⟩) (Kd.S_types HO946.out BK938.out (by decide)) (fun _ hk => hk.2) (.slice Ao31 y944.length co31)) (fun _ hk => trivial))⟩, ⟨by (with_reducible repeat (first | refine blk_drewN ?_ _ | refine blk_drew ?_ | refine blk_alloc ?_ _)); refine blk_far ?_ NB934_938.out _; (with_reducible repeat (first | refine blk_drewN ?_ _ | refine blk_drew ?_ | refine blk_alloc ?_ _)); exact BK934.out⟩, ⟨by (with_reducible repeat (first | refine blk_drewN ?_ _ | refine blk_drew ?_ | refine blk_alloc ?_ _)); refine blk_far ?_ NB935_938.out _; (with_reducible repeat (first | refine blk_drewN ?_ _ | refine blk_drew ?_ | refine blk_alloc ?_ _)); exact BK935.out⟩, ⟨by (with_reducible repeat (first | refine blk_drewN ?_ _ | refine blk_drew ?_ | refine blk_alloc ?_ _)); refine blk_put (cs := #[u00]) ?_ 0 _ rfl; (with_reducible repeat (first | refine blk_drewN ?_ _ | refine blk_drew ?_ | refine blk_alloc ?_ _)); exact BK938.out⟩, ⟨z47_8⟩⟩
          rw [if_neg c26] at H
          exact absurd H (by simp)
         rw [if_neg c24] at H
         exact absurd H (by simp)
        rw [if_neg c23] at H
        exact absurd H (by simp)
       rw [if_neg c22] at H
       exact absurd H (by simp)
      rw [if_neg c21] at H
      exact absurd H (by simp)
     rw [if_neg c20] at H
     have c20b0 : decide (x23_2 < (l1.length : Int)) = false := decide_eq_false c20
     clear c20
     simp only [Option.some.injEq, Prod.mk.injEq] at H
     obtain ⟨rfl, rfl⟩ := H
     have hnb33 := NB938_934.out
     have hnc33 := NB934_938.out
     have hnb34 := NB938_935.out
     have hnc34 := NB935_938.out
     have hcz35_0 := cf0 BK938.out
     have hfz35_0 := blk_frozen BK938.out 0
     obtain ⟨Ao36, co36, eo36⟩ := Kd.S_slice HO_00.out
     subst eo36
     have hnb37 := NB935_934.out
     have hnc37 := NB934_935.out
     have hcz38_0 := cf0 BK935.out
     have hfz38_0 := blk_frozen BK935.out 0
     go_wp2
     refine bodyPost_ret (results_ct rfl _ _ gb935 35 #[.slice Ao36 x00_2.length co36] (0, 0) _ rfl z47_9 Try.underlying35 rfl (by kernel_rfl)) rfl ?_
     exact ⟨_, z47_3, su (Kd.S_mono (Kd.S_far (p := ⟨gb935, 0, none⟩) (Kd.S_types HO_00.out BK935.out (by decide)) (fun _ hk => hk.2) (.slice Ao36 x00_2.length co36)) (fun _ hk => trivial)), z47_8⟩

end Go.Proofs.Ytefkbmhkhpekjaa.PB

-- Joined by wip/mclaim.py out of YtefkbmhkhpekjaaPBx98, YtefkbmhkhpekjaaPBx90, YtefkbmhkhpekjaaPBx39, YtefkbmhkhpekjaaPBx126, YtefkbmhkhpekjaaPBx94, YtefkbmhkhpekjaaPBx44, YtefkbmhkhpekjaaPBx137, YtefkbmhkhpekjaaPBx127, YtefkbmhkhpekjaaPBx95, YtefkbmhkhpekjaaPBx45, YtefkbmhkhpekjaaPBx11
import Derived.Test.YtefkbmhkhpekjaaPBx0
import Derived.Test.YtefkbmhkhpekjaaJFnExactTurnBesidex1
import Derived.Test.YtefkbmhkhpekjaaJFnExactTurnBesideyPBx89
import Derived.Test.YtefkbmhkhpekjaaPBx32
import Derived.Test.YtefkbmhkhpekjaaPBx33
import Derived.Test.YtefkbmhkhpekjaaPBx34
import Derived.Test.YtefkbmhkhpekjaaPBx38
import Derived.Test.YtefkbmhkhpekjaaPBx80
namespace Go.Proofs.Ytefkbmhkhpekjaa.PB
open Go.RowKit Go.Proofs.YtefkbmhkhpekjaaW.PrintWords Go.Proofs.YtefkbmhkhpekjaaW.PrintLast Go.Proofs.YtefkbmhkhpekjaaW.PrintMore
attribute [local go_sem] max2_int min2_int max_two min_two max_three min_three max_four min_four   -- for this text's walks alone
open Go.Proofs.YtefkbmhkhpekjaaMine
set_option linter.unusedVariables false
set_option linter.unusedSimpArgs false

/-! ### impl_Do_98: function 98 -/
def impl_Do_98.f (l0 : List S85) : Option (List S85) := if l0.length < 1048577 then some l0 else none
set_option maxRecDepth 100000 in
set_option maxHeartbeats 800000 in
theorem impl_Do_98.calls (A0 : Option Addr) (c0 : Nat) (l0 : List S85) (r : List S85) (w : World) (hr0 : Kd.C k85 w A0 l0.length l0) (hc0 : l0.length ≤ c0) (h : impl_Do_98.f l0 = some r) :
  Calls Try.prog 98 #[.slice A0 l0.length c0] w fun e w' => ∃ v0_ : Value, e = .returned (v0_) ∧ Kd.R k85 85 w' w.heap.size (fun _ => True) v0_ r ∧ Below w.heap.size w w' := by
 unfold impl_Do_98.f at h
 split at h
 ·rename_i hl
  injection h with h; subst h
  have qT : ∀ (w : World) (a : Option Addr) (n c n' c' : Nat), (binOp .eql 82 (.slice a n c) (.slice none n' c')).run Try.prog w = .ok (.bool a.isNone) w := fun w a n c n' c' => Lib.run_eql_slice_nil w _ _ a n c n' c' Try.underlying82
  rcases A0 with _ | ad
  ·obtain rfl := nil_of_none hr0
   go_enter Try.func98, Try.ntmps98
   go_wp2_with fail
   go_ret
   exact ⟨_, rfl, Kd.R_nil _ _ _ _ _, Below.refl _ _⟩
  ·go_enter Try.func98, Try.ntmps98
   go_wp2_with (at_builtin; refine park ?_)
   refine ⟨?_⟩
   refine Kd.R_append_rows k85 (Rr := k85.K (w.alloc (Obj.cells #[] 85))) (w0 := w) w.heap.size (by rfl) (.tmp 5) (.tmp 6) 82 85 (.agg #[(.int .i64 0), (.int .i64 0), (.int .i64 0)]) 24 rfl Try.underlying82 info85 rfl (by decide) (by omega) (.slice (some ⟨w.heap.size, 0, none⟩) 0 0) [] l0 (some ad) l0.length c0 (fun _ => True) (fun _ => False) rfl rfl ?aO ?aR ?aK (fun _ h => h.elim) (fun _ _ => trivial) ?aB (by simp) ?aL ?_
   case aO => exact R_empty _ _ _ _ _ (Nat.le_refl _) trivial
   case aR => exact C_rows (Kd.C_below hr0 (below_alloc (Below.refl _ _) _))
   case aK => intro x cs hx; rw [k85_open hx]; exact k85_mkM _ _ _ _
   case aB => exact below_alloc (Below.refl _ _) _
   case aL => simp; omega
   intro v1 w1 ho1 hb1 _ _
   go_wp2_with fail
   go_ret
   exact ⟨_, rfl, by simpa using ho1, hb1⟩
 ·cases h


end Go.Proofs.Ytefkbmhkhpekjaa.PB

namespace Go.Proofs.Ytefkbmhkhpekjaa.PB
open Go.RowKit Go.Proofs.YtefkbmhkhpekjaaW.PrintWords Go.Proofs.YtefkbmhkhpekjaaW.PrintLast Go.Proofs.YtefkbmhkhpekjaaW.PrintMore
attribute [local go_sem] max2_int min2_int max_two min_two max_three min_three max_four min_four   -- for this text's walks alone
open Go.Proofs.YtefkbmhkhpekjaaMine
set_option linter.unusedVariables false
set_option linter.unusedSimpArgs false

theorem z90_1 {p : Prop} (h : p := by repeat (first | (with_reducible first | exact HB.out | apply below_alloc | apply pw_below_drewN | apply below_drew1) | exact HB.out)) : p := h
theorem z90_2 {p : Prop} (h : p := by repeat (first | (with_reducible first | exact HB.out | apply below_alloc | apply pw_below_drewN | apply below_drew1 | refine below_set ?_ GE415.out) | exact HB.out)) : p := h
theorem z90_3 {p : Prop} (h : p := by repeat (first | (with_reducible first | exact HB.out | apply below_alloc | apply pw_below_drewN | apply below_drew1 | refine below_set ?_ GE415.out | refine below_set ?_ GE416.out) | exact HB.out)) : p := h
theorem z90_4 {p : Prop} (h : p := by repeat (first | (with_reducible first | exact HB.out | apply below_alloc | apply pw_below_drewN | apply below_drew1 | refine below_set ?_ GE415.out | refine below_set ?_ GE416.out | refine below_set ?_ GE417.out) | exact HB.out)) : p := h
/-! ### impl_Prog_copied: function 90 -/
def impl_Prog_copied.l0 : Nat → List (List (S85)) → Int → Int → List (List (S85)) → Option ((List (List (S85))))
  | 0, _, _, _, _ => none
  | k + 1, x7, x8, x9, x418000 => if x9 < x8 then (if 0 ≤ x9 then (if x9 < (x7.length : Int) then ((impl_Do_98.f (rd_L7 x7 x9)).bind fun t419 => (if x418000.length < 5864062014805 then (impl_Prog_copied.l0 k x7 x8 (wrap64 (x9 + 1)) (x418000 ++ [t419])) else (none))) else (none)) else (none)) else (some x418000)
def impl_Prog_copied.f (k : Nat) (l0_0 : List (List (S85))) : Option ((List (List (S85)))) := impl_Prog_copied.l0 k l0_0 (l0_0.length : Int) 0 ([] : List (List (S85)))
theorem impl_Prog_copied.mono_l : ∀ k, (∀ y0 y1 y2 y3, LeO (impl_Prog_copied.l0 k y0 y1 y2 y3) (impl_Prog_copied.l0 (k + 1) y0 y1 y2 y3))
  | 0 => fun _ _ _ _ r h => by simp [impl_Prog_copied.l0] at h
  | k + 1 => by
    have ih0 := impl_Prog_copied.mono_l k
    · intro y0 y1 y2 y3
      unfold impl_Prog_copied.l0
      repeat' first
      | (with_reducible exact ih0 _ _ _ _)
      | (with_reducible exact LeO.refl _)
      | (with_reducible exact LeO.none _)
      | (with_reducible refine LeO.ite ?_ ?_)
      | (with_reducible refine LeO.bind ?_ (fun _ => ?_))
      | exact ih0 _ _ _ _
      | exact LeO.none _
      | refine LeO.ite ?_ ?_
      | refine LeO.bind ?_ (fun _ => ?_)
theorem impl_Prog_copied.mono : ∀ a0 k, LeO (impl_Prog_copied.f k a0) (impl_Prog_copied.f (k + 1) a0) := by
  intro a0 k
  have ih0 := impl_Prog_copied.mono_l k
  unfold impl_Prog_copied.f
  repeat' first
      | (with_reducible exact ih0 _ _ _ _)
      | (with_reducible exact LeO.refl _)
      | (with_reducible exact LeO.none _)
      | (with_reducible refine LeO.ite ?_ ?_)
      | (with_reducible refine LeO.bind ?_ (fun _ => ?_))
      | exact ih0 _ _ _ _
      | exact LeO.none _
      | refine LeO.ite ?_ ?_
      | refine LeO.bind ?_ (fun _ => ?_)
def impl_Prog_copied.T5 : Bool × List (List Nat × List Nat) := (true, [([], []), ([0], [0]), ([], []), ([2], [2]), ([3], [3]), ([1, 4, 3], [1, 4]), ([0, 1, 2, 3, 4, 5], []), ([6, 5, 5, 0, 1, 2, 3, 4, 5], [5, 6])])
def impl_Prog_copied.B5 : List Nat := [0, 1, 0, 4, 12, 31, 63, 127]
theorem impl_Prog_copied.tab5 : rtab .any (opsOf Try.f90 5) = impl_Prog_copied.T5 := by kernel_rfl
theorem impl_Prog_copied.bits5 : waitsOk impl_Prog_copied.T5.2 impl_Prog_copied.B5 = true := by kernel_rfl
set_option maxHeartbeats 8000000 in
set_option maxRecDepth 100000 in
theorem impl_Prog_copied.calls (k : Nat) (A0_0 : Option Addr) (c0_0 : Nat) (l0_0 : List (List (S85))) (r : List (List (S85))) (w : World) (hr0_0 : Kd.C (Kd.slice 85 k85) w A0_0 l0_0.length l0_0) (hc0_0 : l0_0.length ≤ c0_0) (h : impl_Prog_copied.f k l0_0 = some r) :
  Calls Try.prog 90 #[.agg #[.slice A0_0 l0_0.length c0_0]] w fun e w' => ∃ v0_ : Value, e = .returned (.agg #[v0_]) ∧ Kd.S (Kd.slice 85 k85) 82 w' w.heap.size (fun _ => True) v0_ r ∧ Below w.heap.size w w' := by
 have hu35 := Try.underlying35
 have HR0_0 := am_ hr0_0
 have HC0_0 := am_ hc0_0
 clear hr0_0 hc0_0
 have HB := am_ (Below.refl w.heap.size w)
 have H : (impl_Prog_copied.l0 k l0_0 (l0_0.length : Int) 0 ([] : List (List (S85)))) = some r := h
 clear h
 have H' := am_ H
 clear H
 go_enter Try.func90, Try.ntmps90
 go_wp2_with (first | ((with_reducible refine gate_dst (N := 1) rfl ?_); refine box_event ?hg (N := 1) ?hd (cs := #[.slice A0_0 l0_0.length c0_0]) (t := 35) ?hr ?_; (case hd => rfl); (case hg => rfl); (case hr => first | (go_simp; done) | (go_simp; rfl)); intro gb415 hg w2 hbox hb; have n0_ := am_ (below_step z90_1 hb); have n1_ := am_ (hbox); have n2_ := am_ (by rw [hg]; exact (below_size z90_1) : w.heap.size ≤ gb415); have n3_ := am_ (by rw [hg]; exact (below_size z90_1) : w.heap.size ≤ gb415); clear HB; have HB := n0_; have BK415 := n1_; have GW415 := n2_; have GE415 := n3_; clear n0_ n1_ n2_ n3_; clear hb hbox hg) | ((with_reducible refine gate_dst (N := 2) rfl ?_); refine box_event ?hg (N := 2) ?hd (cs := #[.slice none 0 0]) (t := 35) ?hr ?_; (case hd => rfl); (case hg => rfl); (case hr => first | (go_simp; done) | (go_simp; rfl)); intro gb416 hg w3 hbox hb; have n0_ := am_ (blk_below (bu BK415.out) hb); have n1_ := am_ (below_step z90_2 hb); have n2_ := am_ (hbox); have n3_ := am_ (by rw [hg]; exact (below_size z90_2) : w.heap.size ≤ gb416); have n4_ := am_ (by rw [hg]; exact (below_size z90_2) : w.heap.size ≤ gb416); have n5_ := am_ (by rw [hg]; exact Nat.ne_of_lt (blk_lt (bu BK415.out)) : gb415 ≠ gb416); have n6_ := am_ (by rw [hg]; exact Nat.ne_of_gt (blk_lt (bu BK415.out)) : gb416 ≠ gb415); clear BK415 HB; have BK415 := n0_; have HB := n1_; have BK416 := n2_; have GW416 := n3_; have GE416 := n4_; have NB415_416 := n5_; have NB416_415 := n6_; clear n0_ n1_ n2_ n3_ n4_ n5_ n6_; clear hb hbox hg) | ((with_reducible refine gate_dst (N := 3) rfl ?_); refine box_event ?hg (N := 3) ?hd (cs := #[.slice none 0 0]) (t := 35) ?hr ?_; (case hd => rfl); (case hg => rfl); (case hr => first | (go_simp; done) | (go_simp; rfl)); intro gb417 hg w4 hbox hb; have n0_ := am_ (blk_below (bu BK415.out) hb); have n1_ := am_ (blk_below (bu BK416.out) hb); have n2_ := am_ (below_step z90_3 hb); have n3_ := am_ (hbox); have n4_ := am_ (by rw [hg]; exact (below_size z90_3) : w.heap.size ≤ gb417); have n5_ := am_ (by rw [hg]; exact (below_size z90_3) : w.heap.size ≤ gb417); have n6_ := am_ (by rw [hg]; exact Nat.ne_of_lt (blk_lt (bu BK415.out)) : gb415 ≠ gb417); have n7_ := am_ (by rw [hg]; exact Nat.ne_of_gt (blk_lt (bu BK415.out)) : gb417 ≠ gb415); have n8_ := am_ (by rw [hg]; exact Nat.ne_of_lt (blk_lt (bu BK416.out)) : gb416 ≠ gb417); have n9_ := am_ (by rw [hg]; exact Nat.ne_of_gt (blk_lt (bu BK416.out)) : gb417 ≠ gb416); clear BK415 BK416 HB; have BK415 := n0_; have BK416 := n1_; have HB := n2_; have BK417 := n3_; have GW417 := n4_; have GE417 := n5_; have NB415_417 := n6_; have NB417_415 := n7_; have NB416_417 := n8_; have NB417_416 := n9_; clear n0_ n1_ n2_ n3_ n4_ n5_ n6_ n7_ n8_ n9_; clear hb hbox hg; have hnb5 := NB415_416.out; have hnc5 := NB416_415.out; have hnb6 := NB415_417.out; have hnc6 := NB417_415.out; have hcz7_0 : w4.cell? ⟨gb415, 0, none⟩ = some (.slice A0_0 l0_0.length c0_0) := (blk_cell BK415.out 0).trans rfl; have hfz7_0 := blk_frozen BK415.out 0))
 go_loopg [9] k (fun kq v9 w' => ∃ (x9_1 : Int) (x418000_1 : List (List (S85))) (u418000 : Value), v9 = .int .i64 x9_1 ∧ Aside0 (impl_Prog_copied.l0 kq l0_0 (l0_0.length : Int) x9_1 x418000_1 = some r) ∧ Aside0 (kq ≤ k) ∧ Aside0 (Kd.S (Kd.slice 85 k85) 82 w' w.heap.size (fun _ => True) u418000 x418000_1) ∧ Aside0 (w'.heap[gb415]? = some (.cells #[(.slice A0_0 l0_0.length c0_0)] 35 (0, 0))) ∧ Aside0 (w'.heap[gb416]? = some (.cells #[(.slice none 0 0)] 35 (0, 0))) ∧ Aside0 (w'.heap[gb417]? = some (.cells #[u418000] 35 (0, 0))) ∧ Aside0 (Below w.heap.size w w'))
 case atStart => exact ⟨(0), (([] : List (List (S85)))), (.slice none 0 0), (by first | rfl | (simp; done) | (simp [*]; done)), H', ⟨Nat.le_refl _⟩, ⟨by first | exact Kd.S_nil _ _ _ _ _ | exact Kd.N_nil _ _ _ _ _ | exact Kd.V_nil _ _ _ _ _ | exact Kd.Q_nil _ _ _ _ _ | exact Kd.R_nil _ _ _ _ _⟩, ⟨bu BK415.out⟩, ⟨bu BK416.out⟩, ⟨bu BK417.out⟩, ⟨z90_4⟩⟩
 case round =>
  clear H'
  obtain ⟨x9_1, x418000_1, u418000, rfl, HA, HK1, HO_418000, BK415, BK416, BK417, HB⟩ := hrel
  cases gk with
  | zero => exact absurd HA.out (by simp [impl_Prog_copied.l0])
  | succ k1 =>
   have H := HA.out
   clear HA
   simp only [impl_Prog_copied.l0] at H
   by_cases c8 : x9_1 < (l0_0.length : Int)
   ·rw [if_pos c8] at H
    have c8b0 : decide (x9_1 < (l0_0.length : Int)) = true := decide_eq_true c8
    clear c8
    by_cases c9 : 0 ≤ x9_1
    ·rw [if_pos c9] at H
     have c9b0 : decide (0 ≤ x9_1) = true := decide_eq_true c9
     clear c9
     by_cases c10 : x9_1 < (l0_0.length : Int)
     ·rw [if_pos c10] at H
      have c10b0 : decide (x9_1 < (l0_0.length : Int)) = true := decide_eq_true c10
      clear c10
      replace H := Option.bind_eq_some_iff.mp H
      obtain ⟨t419, A110, H⟩ := H
      replace H : (if x418000_1.length < 5864062014805 then (impl_Prog_copied.l0 k1 l0_0 (l0_0.length : Int) (wrap64 (x9_1 + 1)) (x418000_1 ++ [t419])) else (none)) = some r := H
      have A11 := am_ A110
      clear A110
      by_cases c12 : x418000_1.length < 5864062014805
      ·rw [if_pos c12] at H
       have LMc12 := am_ c12
       clear c12
       obtain ⟨y422, hy422⟩ : ∃ y_ : List (List (S85)), y_ = (x418000_1 ++ [t419]) := ⟨_, rfl⟩
       replace H : (impl_Prog_copied.l0 k1 l0_0 (l0_0.length : Int) (wrap64 (x9_1 + 1)) y422) = some r := by first | (rw [hy422]; with_reducible exact H) | (have H2_ := (Option.bind_some _ _).symm.trans H; rw [hy422]; with_reducible exact H2_) | (have H2_ := (Option.bind_some _ _).symm.trans H; with_reducible exact H2_) | with_reducible exact H | (rw [hy422]; exact H) | exact H
       have Ny422 := am_ hy422
       clear hy422
       have H' := am_ H
       clear H
       have p418 : 0 ≤ (x9_1 : Int) := of_decide_eq_true (by first | (with_reducible assumption) | assumption)
       have q418 : x9_1 < (l0_0.length : Int) := of_decide_eq_true (by first | (with_reducible assumption) | assumption)
       obtain ⟨ad418, A418_0, c418_0, e418, hx418_0, hl418_0, hi418_0⟩ := at_L7 HR0_0.out x9_1 p418 q418
       cases e418
       replace hx418_0 := (HB.out.cell (World.block_lt_of_cell? w _ hx418_0)).trans hx418_0
       have HR418_0 := am_ hi418_0
       have HC418_0 := am_ hl418_0
       clear hi418_0 hl418_0
       replace p418 := eq_true p418
       replace q418 := eq_true q418
       try go_wp2
       have n0_ := am_ (Kd.S_drew HO_418000.out)
       have n1_ := am_ (blk_drew BK415.out)
       have n2_ := am_ (blk_drew BK416.out)
       have n3_ := am_ (blk_drew BK417.out)
       have n4_ := am_ (below_drew1 HB.out)
       clear HO_418000 BK415 BK416 BK417 HB
       have HO_418000 := n0_
       have BK415 := n1_
       have BK416 := n2_
       have BK417 := n3_
       have HB := n4_
       clear n0_ n1_ n2_ n3_ n4_
       refine start_ (n := 8) (S := fun w' => w'.cell? ⟨gb417, 0, none⟩ = some (u418000)) (ds := [7]) #[false, false, false, false, false, false, false, false] (by kernel_rfl) rfl rfl ((blk_cell BK417.out 0).trans rfl) (fun hHeld => ?_); refine with_tabW impl_Prog_copied.tab5 impl_Prog_copied.bits5 (fun HT_ HW_ => ?_)
       generalize wr.drew = w13 at HO_418000 BK415 BK416 BK417 HB hHeld ⊢
       refine pure_ (i := 0) (N := some 13) (v := ?_) (a' := ?_) #[true, false, false, false, false, false, false, false] rfl rfl (any_of HT_.out (by kernel_rfl)) (fun _ _ _ h => h) (Or.inl ⟨by rfl, ?_⟩) ?_ ?_
       rotate_left
       ·intro w'
        go_simp
        with_reducible rfl
       rotate_left
       ·simp only [Act.put, List.setIfInBounds_toArray, List.set_cons_zero, List.set_cons_succ, i64_w, i32_w]
        rfl
       refine pure_ (i := 2) (N := some 15) (v := ?_) (a' := ?_) #[true, false, true, false, false, false, false, false] rfl rfl (any_of HT_.out (by kernel_rfl)) (fun _ _ _ h => h) (Or.inl ⟨by rfl, ?_⟩) ?_ ?_
       rotate_left
       ·intro w'
        go_simp
        with_reducible rfl
       rotate_left
       ·simp only [Act.put, List.setIfInBounds_toArray, List.set_cons_zero, List.set_cons_succ, i64_w, i32_w]
        rfl
       refine take_ (i := 1) (N := some 14) (v := ?_) (a' := ?_) #[true, true, true, false, false, false, false, false] rfl rfl (take_ofW HT_.out HW_.out (by kernel_rfl)) (fun _ _ _ h => h) (Or.inl ⟨by rfl, ?_⟩) hHeld ?_ ?_
       rotate_left
       ·intro w' s0
        go_simp
        with_reducible rfl
       rotate_left
       ·simp only [Act.put, List.setIfInBounds_toArray, List.set_cons_zero, List.set_cons_succ, i64_w, i32_w]
        rfl
       refine one_ (i := 3) (N := some 16) #[true, true, true, true, false, false, false, false] rfl rfl (one_of HT_.out (by kernel_rfl)) (by decide) (fun K hK => ?_)
       refine goes_ Try.func98 (by kernel_rfl) rfl #[.slice A418_0 (rd_L7 l0_0 x9_1).length c418_0] (by rfl) rfl rfl (by (try simp only [List.map_toArray, List.map_cons, List.map_nil]); first | done | rfl | (simp only [List.length_drop, List.length_take]; rfl)) ?_
       with_reducible refine (impl_Do_98.calls _ _ (rd_L7 l0_0 x9_1) t419 _ ?side1 ?side2 A11.out).mono ?_
       (case side1 => repeat (first | exact (Kd.C_below HR418_0.out HB.out) | (with_reducible refine Kd.C_alloc ?_ _) | (with_reducible refine Kd.C_drewN ?_ _) | (with_reducible refine Kd.C_drew ?_)))
       (case side2 => exact HC418_0.out)
       rintro e w14 ⟨v420, rfl, ho0, hb⟩
       refine ⟨_, rfl, ?_⟩
       have n0_ := am_ (Kd.S_elder' (su HO_418000.out) (Kd.R_base ho0) hb)
       have n1_ := am_ (Kd.R_lower ho0 (below_size z90_4))
       have n2_ := am_ (blk_below (bu BK415.out) hb)
       have n3_ := am_ (blk_below (bu BK416.out) hb)
       have n4_ := am_ (blk_below (bu BK417.out) hb)
       have n5_ := am_ (below_step z90_4 hb)
       clear HO_418000 BK415 BK416 BK417 HB
       have HO_418000 := n0_
       have HO421 := n1_
       have BK415 := n2_
       have BK416 := n3_
       have BK417 := n4_
       have HB := n5_
       clear n0_ n1_ n2_ n3_ n4_ n5_
       (try clear hb)
       (try clear hb2)
       (try clear hk)
       (try clear hi)
       (try clear ho0)
       obtain ⟨Ao16, co16, eo16⟩ := Kd.R_slice HO421.out
       (first | subst eo16 | (injection eo16 with f1_ f2_ f3_; have f4_ := f1_.symm; have f5_ := f3_.symm; clear f1_ f2_ f3_; subst f4_; subst f5_))
       refine hK.out _ _ ((blk_cell BK417.out 0).trans rfl) (fun hHeld => ?_)
       clear hK K
       refine norm_ (a' := ?_) ?_ ?_
       rotate_left
       ·show Act.put _ (some 16) _ = _
        simp only [Act.put, List.setIfInBounds_toArray, List.set_cons_zero, List.set_cons_succ, i64_w, i32_w]
        rfl
       refine one_ (i := 4) (N := some 17) #[true, true, true, true, true, false, false, false] rfl rfl (one_of HT_.out (by kernel_rfl)) (by decide) (fun K hK => ?_)
       refine value_ (w1 := ?_) (v := ?_) (by rfl) rfl ?_ ?_
       rotate_left 2
       ·go_simp
        constructor
        ·rfl
        ·rfl
       refine hK.out _ _ ((blk_cell (blk_alloc BK417.out _) 0).trans rfl) (fun hHeld => ?_)
       clear hK K
       refine norm_ (a' := ?_) ?_ ?_
       rotate_left
       ·show Act.put _ (some 17) _ = _
        simp only [Act.put, List.setIfInBounds_toArray, List.set_cons_zero, List.set_cons_succ, i64_w, i32_w]
        rfl
       refine one_ (i := 5) (N := some 18) #[true, true, true, true, true, true, false, false] rfl rfl (one_of HT_.out (by kernel_rfl)) (by decide) (fun K hK => ?_)
       refine Kd.S_append_step (Kd.slice 85 k85) (w0 := w) w.heap.size (by rfl) (.tmp 14) (.tmp 17) 33 82 (.slice none 0 0) 24 rfl Try.underlying33 info82 rfl (by decide) (by omega) u418000 x418000_1 t419 [.slice Ao16 t419.length co16] (fun _ => True) (fun k_ => some k_ = (.slice Ao16 t419.length co16 : Value).ownBlock) rfl rfl ?aP (fun k_ hk_ => ((Kd.R_mono (ok' := fun k_ => ((fun _ => True)) k_ ∧ some k_ ≠ (u418000 : Value).ownBlock) (Kd.R_apart' (HO421.out) (Kd.S_typed HO_418000.out) (by decide)) (fun k_ hk => ⟨trivial, hk.2⟩))).1 k_ hk_.symm) ?aF ?aO ?aB ?aS ?aL ?_
       (case aP => exact Kd.M_row (Kd.R_mono (Kd.R_tight rfl (Kd.R_mono (ok' := fun k_ => ((fun _ => True)) k_ ∧ some k_ ≠ (u418000 : Value).ownBlock) (Kd.R_apart' (HO421.out) (Kd.S_typed HO_418000.out) (by decide)) (fun k_ hk => ⟨trivial, hk.2⟩))) (fun _ h_ => h_)))
       (case aB => exact z90_4)
       (case aF => exact (fun _ _ => trivial))
       (case aO => exact (su (Kd.S_mono HO_418000.out (fun k_ hk => ⟨trivial, fun e_ => hk.2 e_⟩))))
       (case aS => exact (below_size z90_4))
       (case aL => have := LMc12.out; omega)
       intro v423 w15 ho hb hg hat
       rw [← Ny422.out] at ho
       have n0_ := am_ (blk_grown (bu BK415.out) hg (Kd.S_ne HO_418000.out BK415.out (by decide)))
       have n1_ := am_ (blk_grown (bu BK416.out) hg (Kd.S_ne HO_418000.out BK416.out (by decide)))
       have n2_ := am_ (blk_grown (bu BK417.out) hg (Kd.S_ne HO_418000.out BK417.out (by decide)))
       have n3_ := am_ (hb)
       have n4_ := am_ (ho)
       clear BK415 BK416 BK417 HB HO_418000 HO421
       have BK415 := n0_
       have BK416 := n1_
       have BK417 := n2_
       have HB := n3_
       have HO424 := n4_
       clear n0_ n1_ n2_ n3_ n4_ ho hb hg hat
       obtain ⟨Ao17, co17, eo17⟩ := Kd.S_slice HO424.out
       (first | subst eo17 | (injection eo17 with f1_ f2_ f3_; have f4_ := f1_.symm; have f5_ := f3_.symm; clear f1_ f2_ f3_; subst f4_; subst f5_))
       refine hK.out _ _ ((blk_cell BK417.out 0).trans rfl) (fun hHeld => ?_)
       clear hK K
       refine norm_ (a' := ?_) ?_ ?_
       rotate_left
       ·show Act.put _ (some 18) _ = _
        simp only [Act.put, List.setIfInBounds_toArray, List.set_cons_zero, List.set_cons_succ, i64_w, i32_w]
        rfl
       refine pure_ (i := 6) (N := some 19) (v := ?_) (a' := ?_) #[true, true, true, true, true, true, true, false] rfl rfl (any_of HT_.out (by kernel_rfl)) (fun _ _ _ h => h) (Or.inl ⟨by rfl, ?_⟩) ?_ ?_
       rotate_left
       ·intro w'
        go_simp
        with_reducible rfl
       rotate_left
       ·simp only [Act.put, List.setIfInBounds_toArray, List.set_cons_zero, List.set_cons_succ, i64_w, i32_w]
        rfl
       refine last_ (i := 7) (N := none) #[true, true, true, true, true, true, true, true] rfl rfl (one_of HT_.out (by kernel_rfl)) (by decide) (fun K hK => ?_)
       have hs18 : w15.cell? ⟨gb417, 0, none⟩ = some (u418000) := (blk_cell BK417.out 0).trans rfl
       have hfs18 := blk_frozen BK417.out 0
       have hns18_0 := NB415_417.out
       have hns18_1 := NB416_417.out
       have hms18_0 := NB417_415.out
       have hms18_1 := NB417_416.out
       refine skip_ (w1 := ?_) (by rfl) rfl ?_ ?_
       rotate_left
       ·go_simp
        rfl
       refine hK.out _ _ ?_
       clear hK K
       refine done_ (done_of HT_.out (by kernel_rfl)) ?_
       try go_wp2
       go_roundg k1
       case measure => have := HK1.out; omega
       case rel => exact ⟨(wrap64 (x9_1 + 1)), (y422), (.slice Ao17 y422.length co17), (by first | rfl | (simp; done) | (simp [*]; done)), H', ⟨by have := HK1.out; omega⟩, ⟨su (Kd.S_mono (Kd.S_far (p := ⟨gb417, 0, none⟩) (Kd.S_types HO424.out BK417.out (by decide)) (fun _ hk => hk.2) (.slice Ao17 y422.length co17)) (fun _ hk => trivial))⟩, ⟨by (with_reducible repeat (first | refine blk_drewN ?_ _ | refine blk_drew ?_ | refine blk_alloc ?_ _)); refine blk_far ?_ NB415_417.out _; (with_reducible repeat (first | refine blk_drewN ?_ _ | refine blk_drew ?_ | refine blk_alloc ?_ _)); exact BK415.out⟩, ⟨by (with_reducible repeat (first | refine blk_drewN ?_ _ | refine blk_drew ?_ | refine blk_alloc ?_ _)); refine blk_far ?_ NB416_417.out _; (with_reducible repeat (first | refine blk_drewN ?_ _ | refine blk_drew ?_ | refine blk_alloc ?_ _)); exact BK416.out⟩, ⟨by (with_reducible repeat (first | refine blk_drewN ?_ _ | refine blk_drew ?_ | refine blk_alloc ?_ _)); refine blk_put (cs := #[u418000]) ?_ 0 _ rfl; (with_reducible repeat (first | refine blk_drewN ?_ _ | refine blk_drew ?_ | refine blk_alloc ?_ _)); exact BK417.out⟩, ⟨z90_4⟩⟩
      ·rw [if_neg c12] at H
       exact absurd H (by simp)
     ·rw [if_neg c10] at H
      exact absurd H (by simp)
    ·rw [if_neg c9] at H
     exact absurd H (by simp)
   ·rw [if_neg c8] at H
    have c8b0 : decide (x9_1 < (l0_0.length : Int)) = false := decide_eq_false c8
    clear c8
    obtain rfl := Option.some.inj H
    have hnb19 := NB417_415.out
    have hnc19 := NB415_417.out
    have hnb20 := NB417_416.out
    have hnc20 := NB416_417.out
    have hcz21_0 : wr.cell? ⟨gb417, 0, none⟩ = some (u418000) := (blk_cell BK417.out 0).trans rfl
    have hfz21_0 := blk_frozen BK417.out 0
    obtain ⟨Ao22, co22, eo22⟩ := Kd.S_slice HO_418000.out
    subst eo22
    have hnb23 := NB416_415.out
    have hnc23 := NB415_416.out
    have hcz24_0 : wr.cell? ⟨gb416, 0, none⟩ = some (.slice none 0 0) := (blk_cell BK416.out 0).trans rfl
    have hfz24_0 := blk_frozen BK416.out 0
    go_wp2
    refine bodyPost_ret (results_cell_row rfl _ _ gb416 35 #[.slice Ao22 x418000_1.length co22] (0, 0) _ rfl (by (with_reducible repeat (first | refine blk_drewN ?_ _ | refine blk_drew ?_ | refine blk_alloc ?_ _)); refine blk_put (cs := #[.slice none 0 0]) ?_ 0 _ rfl; (with_reducible repeat (first | refine blk_drewN ?_ _ | refine blk_drew ?_ | refine blk_alloc ?_ _)); exact BK416.out) Try.underlying35 rfl (by kernel_rfl)) rfl ?_
    exact ⟨_, by first | rfl | (simp [errW_none, errW_some] <;> rfl) | (simp [*, errW_none, errW_some] <;> rfl), su (Kd.S_mono (Kd.S_far (p := ⟨gb416, 0, none⟩) (Kd.S_types HO_418000.out BK416.out (by decide)) (fun _ hk => hk.2) (.slice Ao22 x418000_1.length co22)) (fun _ hk => trivial)), z90_4⟩

end Go.Proofs.Ytefkbmhkhpekjaa.PB

namespace Go.Proofs.Ytefkbmhkhpekjaa.PB
open Go.RowKit Go.Proofs.YtefkbmhkhpekjaaW.PrintWords Go.Proofs.YtefkbmhkhpekjaaW.PrintLast Go.Proofs.YtefkbmhkhpekjaaW.PrintMore
attribute [local go_sem] max2_int min2_int max_two min_two max_three min_three max_four min_four   -- for this text's walks alone
open Go.Proofs.YtefkbmhkhpekjaaMine
set_option linter.unusedVariables false
set_option linter.unusedSimpArgs false

/-! ### impl_TurnBeside: function 39 -/
def impl_TurnBeside.T1 : Bool × List (List Nat × List Nat) := (true, [([], []), ([0], [0]), ([1], [1]), ([], []), ([3, 1], [3]), ([4], [4]), ([2, 5], [2, 5]), ([6, 4], [6]), ([7], [7]), ([], []), ([9, 8, 7, 0, 1, 2, 3, 4, 5, 6, 7, 8, 9], [8, 9])])
def impl_TurnBeside.B1 : List Nat := [0, 1, 3, 0, 11, 27, 63, 127, 255, 0, 1023]
theorem impl_TurnBeside.tab1 : rtab .any (opsOf Try.f39 1) = impl_TurnBeside.T1 := by kernel_rfl
theorem impl_TurnBeside.bits1 : waitsOk impl_TurnBeside.T1.2 impl_TurnBeside.B1 = true := by kernel_rfl
def impl_TurnBeside.body (k : Nat) (l0 l1 p q : List (List S85)) : Option (List (List S85) × Bool) := (impl_ProgOk.f k l0).bind fun a => if a = true then (impl_ProgOk.f k l1).bind fun b => if b = true then (impl_ProgOk.f k (p ++ q)).bind fun c => some (if c = true then (p ++ q, true) else ([], false)) else some ([], false) else some ([], false)
def impl_TurnBeside.f (k : Nat) (l0 l1 : List (List S85)) : Option (List (List S85) × Bool) := (impl_Prog_copied.f k l0).bind fun p => (impl_Prog_copied.f k l1).bind fun q => if p.length ≤ 2097152 ∧ q.length ≤ 2097152 then impl_TurnBeside.body k l0 l1 p q else none
set_option maxRecDepth 100000 in
set_option maxHeartbeats 8000000 in
theorem impl_TurnBeside.calls (k : Nat) (A0 : Option Addr) (c0 : Nat) (l0 : List (List S85)) (A1 : Option Addr) (c1 : Nat) (l1 : List (List S85)) (r1 : List (List S85)) (r2 : Bool) (w : World) (hr0 : Kd.C (Kd.slice 85 k85) w A0 l0.length l0) (hc0 : l0.length ≤ c0) (hr1 : Kd.C (Kd.slice 85 k85) w A1 l1.length l1) (hc1 : l1.length ≤ c1) (h : impl_TurnBeside.f k l0 l1 = some (r1, r2)) :
  Calls Try.prog 39 #[.agg #[.slice A0 l0.length c0], .agg #[.slice A1 l1.length c1]] w fun e w' => ∃ v0_ : Value, e = .returned (.tuple #[.agg #[v0_], .bool r2]) ∧ Kd.S (Kd.slice 85 k85) 82 w' w.heap.size (fun _ => True) v0_ r1 ∧ Below w.heap.size w w' := by
 have C0 := am_ hr0
 have C1 := am_ hr1
 have L0 := am_ hc0
 have L1 := am_ hc1
 obtain ⟨p, e1, h⟩ := Option.bind_eq_some_iff.mp h
 obtain ⟨q, e2, h⟩ := Option.bind_eq_some_iff.mp h
 have E1 := am_ e1
 have E2 := am_ e2
 by_cases hpq : p.length ≤ 2097152 ∧ q.length ≤ 2097152
 rotate_left
 ·rw [if_neg hpq] at h; cases h
 rw [if_pos hpq] at h
 have HPQ := am_ hpq
 unfold impl_TurnBeside.body at h
 obtain ⟨r, hr⟩ : ∃ r, p ++ q = r := ⟨_, rfl⟩
 rw [hr] at h
 have HRR := am_ hr
 have H := am_ h
 clear hr hr0 hr1 hc0 hc1 e1 e2 h hpq
 have hfl : ∀ (v : Value) (w : World), (Instr.field 35 (.agg #[v]) 0).run Try.prog w = .ok v w := fun v w => by
  simp [Instr.field, run_underlying Try.underlying35]
  try rfl
 go_enter Try.func39, Try.ntmps39
 go_wp2_with fail
 have hbP := blk_alloc (blk_alloc (heap_alloc_new w (Obj.cells #[Value.slice A0 l0.length c0] 35)) (Obj.cells #[Value.slice A1 l1.length c1] 35)) (Obj.cells #[Value.slice none 0 0] 35)
 have hbQ := blk_alloc (heap_alloc_new (w.alloc (Obj.cells #[Value.slice A0 l0.length c0] 35)) (Obj.cells #[Value.slice A1 l1.length c1] 35)) (Obj.cells #[Value.slice none 0 0] 35)
 rw [World.size_alloc] at hbQ
 have hbR := heap_alloc_new ((w.alloc (Obj.cells #[Value.slice A0 l0.length c0] 35)).alloc (Obj.cells #[Value.slice A1 l1.length c1] 35)) (Obj.cells #[Value.slice none 0 0] 35)
 rw [World.size_alloc, World.size_alloc] at hbR
 have hB3 := below_alloc (below_alloc (below_alloc (Below.refl w.heap.size w) (Obj.cells #[Value.slice A0 l0.length c0] 35)) (Obj.cells #[Value.slice A1 l1.length c1] 35)) (Obj.cells #[Value.slice none 0 0] 35)
 have hsz : w.heap.size + 3 ≤ (((w.alloc (Obj.cells #[Value.slice A0 l0.length c0] 35)).alloc (Obj.cells #[Value.slice A1 l1.length c1] 35)).alloc (Obj.cells #[Value.slice none 0 0] 35)).heap.size := by rw [World.size_alloc, World.size_alloc, World.size_alloc]; omega
 have BP_1 := am_ (blk_drew hbP)
 have BQ_2 := am_ (blk_drew hbQ)
 have BR_3 := am_ (blk_drew hbR)
 have HB_4 := am_ (below_drew hB3)
 have SZ_5 := am_ (show w.heap.size + 3 ≤ (((w.alloc (Obj.cells #[Value.slice A0 l0.length c0] 35)).alloc (Obj.cells #[Value.slice A1 l1.length c1] 35)).alloc (Obj.cells #[Value.slice none 0 0] 35)).drew.heap.size from hsz)
 clear hbP hbQ hbR hB3 hsz
 refine start_ (n := 11) (S := fun w' => w'.cell? ⟨w.heap.size, 0, none⟩ = some (.slice A0 l0.length c0) ∧ w'.cell? ⟨w.heap.size + 1, 0, none⟩ = some (.slice A1 l1.length c1)) (ds := [10]) #[false, false, false, false, false, false, false, false, false, false, false] (by kernel_rfl) rfl rfl ⟨(blk_cell BP_1.out 0).trans rfl, (blk_cell BQ_2.out 0).trans rfl⟩ (fun hHeld => ?_)
 refine with_tabW impl_TurnBeside.tab1 impl_TurnBeside.bits1 (fun HT_ HW_ => ?_)
 generalize (((w.alloc (Obj.cells #[Value.slice A0 l0.length c0] 35)).alloc (Obj.cells #[Value.slice A1 l1.length c1] 35)).alloc (Obj.cells #[Value.slice none 0 0] 35)).drew = V0 at *
 refine take_ (i := 0) (N := some 7) (v := ?_) (a' := ?_) #[true, false, false, false, false, false, false, false, false, false, false] rfl rfl (take_ofW HT_.out HW_.out (by kernel_rfl)) (fun _ _ _ h => h) (Or.inl ⟨by rfl, ?_⟩) hHeld ?_ ?_
 rotate_left
 ·intro w' s0
  have s1 := s0.1
  go_simp
  with_reducible rfl
 rotate_left
 ·simp only [Act.put, List.setIfInBounds_toArray, List.set_cons_zero, List.set_cons_succ, i64_w, i32_w]
  rfl
 refine take_ (i := 3) (N := some 10) (v := ?_) (a' := ?_) #[true, false, false, true, false, false, false, false, false, false, false] rfl rfl (take_ofW HT_.out HW_.out (by kernel_rfl)) (fun _ _ _ h => h) (Or.inl ⟨by rfl, ?_⟩) hHeld ?_ ?_
 rotate_left
 ·intro w' s0
  have s1 := s0.2
  go_simp
  with_reducible rfl
 rotate_left
 ·simp only [Act.put, List.setIfInBounds_toArray, List.set_cons_zero, List.set_cons_succ, i64_w, i32_w]
  rfl
 refine join_ (σ := Value × Value × Nat × Value × Nat) 1 #[true, true, true, true, true, true, true, true, true, true, false] (fun s_ => [(8, .agg #[s_.1]), (9, s_.1), (11, .agg #[s_.2.1]), (12, s_.2.1), (13, .slice (some ⟨s_.2.2.1, 0, none⟩) 2 2), (14, s_.2.2.2.1), (15, .agg #[s_.2.2.2.1]), (6, .pointer (some ⟨s_.2.2.2.2, 0, none⟩))]) (fun s_ w' => (w'.cell? ⟨w.heap.size, 0, none⟩ = some (.slice A0 l0.length c0) ∧ w'.cell? ⟨w.heap.size + 1, 0, none⟩ = some (.slice A1 l1.length c1)) ∧ w'.heap[w.heap.size]? = some (Obj.cells #[Value.slice A0 l0.length c0] 35) ∧ w'.heap[w.heap.size + 1]? = some (Obj.cells #[Value.slice A1 l1.length c1] 35) ∧ w'.heap[w.heap.size + 1 + 1]? = some (Obj.cells #[Value.slice none 0 0] 35) ∧ w'.heap[s_.2.2.2.2]? = some (Obj.cells #[Value.slice none 0 0] 35) ∧ Kd.S (Kd.slice 85 k85) 82 w' w.heap.size (fun _ => True) s_.2.2.2.1 r ∧ Below w.heap.size w w' ∧ w.heap.size + 3 ≤ s_.2.2.2.2) ?_ ?_
 rotate_left
 ·intro hCont
  refine two_ (i := 1) (j := 9) (Ni := some 8) (Nj := some 6) #[true, true, false, true, false, false, false, false, false, false, false] #[true, false, false, true, false, false, false, false, false, true, false] rfl rfl rfl rfl (two_of HT_.out (by kernel_rfl)) (by decide) (by decide) (fun K hK => ?_) (fun K hK => ?_)
  ·refine goes_ Try.func90 (by kernel_rfl) rfl #[.agg #[.slice A0 l0.length c0]] (by rfl) rfl rfl (by (try simp only [List.map_toArray, List.map_cons, List.map_nil]); first | done | rfl) ?_
   with_reducible refine (impl_Prog_copied.calls k _ _ l0 p _ (Kd.C_below C0.out HB_4.out) L0.out E1.out).mono ?_
   rintro e w6 ⟨vp, rfl, hS, hb⟩
   refine ⟨_, rfl, ?_⟩
   obtain ⟨Ap, cp, rfl⟩ := Kd.S_slice hS
   have hle : w.heap.size ≤ V0.heap.size := HB_4.out.size
   have BP_7 := am_ (blk_below BP_1.out hb)
   have BQ_8 := am_ (blk_below BQ_2.out hb)
   have BR_9 := am_ (blk_below BR_3.out hb)
   have HB_10 := am_ (below_then HB_4.out HB_4.out.size hb)
   have SZ_11 := am_ (Nat.le_trans SZ_5.out hb.size)
   clear BP_1 BQ_2 BR_3 HB_4 SZ_5
   have SP_12 := am_ (Kd.S_lower (Kd.S_mono (ok' := fun k => k < w6.heap.size) (Kd.S_bound hS) (fun k hk => hk.2.2.1)) hle)
   have NP_13 := am_ (Nat.le_refl w6.heap.size)
   clear hS hb hle
   refine hK.out _ _ ⟨(blk_cell BP_7.out 0).trans rfl, (blk_cell BQ_8.out 0).trans rfl⟩ (fun hHeld => ?_)
   clear hK K
   refine norm_ (a' := ?_) ?_ ?_
   rotate_left
   ·show Act.put _ (some 8) _ = _
    simp only [Act.put, List.setIfInBounds_toArray, List.set_cons_zero, List.set_cons_succ, i64_w, i32_w]
    rfl
   refine pure_ (i := 2) (N := some 9) (v := ?_) (a' := ?_) #[true, true, true, true, false, false, false, false, false, false, false] rfl rfl (any_of HT_.out (by kernel_rfl)) (fun _ _ _ h => h) (Or.inl ⟨by rfl, ?_⟩) ?_ ?_
   rotate_left
   ·intro w'
    go_simp
    with_reducible rfl
   rotate_left
   ·simp only [Act.put, List.setIfInBounds_toArray, List.set_cons_zero, List.set_cons_succ, i64_w, i32_w]
    rfl
   refine two_ (i := 4) (j := 9) (Ni := some 11) (Nj := some 6) #[true, true, true, true, true, false, false, false, false, false, false] #[true, true, true, true, false, false, false, false, false, true, false] rfl rfl rfl rfl (two_of HT_.out (by kernel_rfl)) (by decide) (by decide) (fun K hK => ?_) (fun K hK => ?_)
   ·refine goes_ Try.func90 (by kernel_rfl) rfl #[.agg #[.slice A1 l1.length c1]] (by rfl) rfl rfl (by (try simp only [List.map_toArray, List.map_cons, List.map_nil]); first | done | rfl) ?_
    with_reducible refine (impl_Prog_copied.calls k _ _ l1 q _ (Kd.C_below C1.out HB_10.out) L1.out E2.out).mono ?_
    rintro e w14 ⟨vq, rfl, hS, hb⟩
    refine ⟨_, rfl, ?_⟩
    obtain ⟨Aq, cq, rfl⟩ := Kd.S_slice hS
    have hle : w.heap.size ≤ w6.heap.size := HB_10.out.size
    have hq0 : w6.heap.size ≤ w6.heap.size := NP_13.out
    have BP_15 := am_ (blk_below BP_7.out hb)
    have BQ_16 := am_ (blk_below BQ_8.out hb)
    have BR_17 := am_ (blk_below BR_9.out hb)
    have HB_18 := am_ (below_then HB_10.out HB_10.out.size hb)
    have SZ_19 := am_ (Nat.le_trans SZ_11.out hb.size)
    have SP_20 := am_ (Kd.S_below SP_12.out hb)
    have NP_21 := am_ (Nat.le_trans NP_13.out hb.size)
    clear BP_7 BQ_8 BR_9 HB_10 SZ_11 SP_12 NP_13
    have SQ_22 := am_ (Kd.S_lower (Kd.S_mono (ok' := fun k => w6.heap.size ≤ k) (Kd.S_bound hS) (fun k hk => Nat.le_trans hq0 hk.2.1)) hle)
    clear hS hb hq0 hle
    refine hK.out _ _ ⟨(blk_cell BP_15.out 0).trans rfl, (blk_cell BQ_16.out 0).trans rfl⟩ (fun hHeld => ?_)
    clear hK K
    refine norm_ (a' := ?_) ?_ ?_
    rotate_left
    ·show Act.put _ (some 11) _ = _
     simp only [Act.put, List.setIfInBounds_toArray, List.set_cons_zero, List.set_cons_succ, i64_w, i32_w]
     rfl
    refine pure_ (i := 5) (N := some 12) (v := ?_) (a' := ?_) #[true, true, true, true, true, true, false, false, false, false, false] rfl rfl (any_of HT_.out (by kernel_rfl)) (fun _ _ _ h => h) (Or.inl ⟨by rfl, ?_⟩) ?_ ?_
    rotate_left
    ·intro w'
     go_simp
     with_reducible rfl
    rotate_left
    ·simp only [Act.put, List.setIfInBounds_toArray, List.set_cons_zero, List.set_cons_succ, i64_w, i32_w]
     rfl
    refine two_ (i := 6) (j := 9) (Ni := some 13) (Nj := some 6) #[true, true, true, true, true, true, true, false, false, false, false] #[true, true, true, true, true, true, false, false, false, true, false] rfl rfl rfl rfl (two_of HT_.out (by kernel_rfl)) (by decide) (by decide) (fun K hK => ?_) (fun K hK => ?_)
    ·refine value_ (w1 := ?_) (v := ?_) (by rfl) rfl ?_ ?_
     rotate_left 2
     ·go_simp
      constructor
      ·rfl
      ·rfl
     have hbx := heap_alloc_new w14 (Obj.cells #[Value.slice Ap p.length cp, Value.slice Aq q.length cq] 33)
     have hb := below_alloc (Below.refl w14.heap.size w14) (Obj.cells #[Value.slice Ap p.length cp, Value.slice Aq q.length cq] 33)
     have BP_24 := am_ (blk_below BP_15.out hb)
     have BQ_25 := am_ (blk_below BQ_16.out hb)
     have BR_26 := am_ (blk_below BR_17.out hb)
     have HB_27 := am_ (below_then HB_18.out HB_18.out.size hb)
     have SZ_28 := am_ (Nat.le_trans SZ_19.out hb.size)
     have SP_29 := am_ (Kd.S_below SP_20.out hb)
     have NP_30 := am_ (Nat.le_trans NP_21.out hb.size)
     have SQ_31 := am_ (Kd.S_below SQ_22.out hb)
     clear BP_15 BQ_16 BR_17 HB_18 SZ_19 SP_20 NP_21 SQ_22
     have BG_32 := am_ (hbx)
     generalize w14.alloc (Obj.cells #[Value.slice Ap p.length cp, Value.slice Aq q.length cq] 33) = w23 at *
     generalize w14.heap.size = gb at *
     clear hbx hb
     refine hK.out _ _ ⟨(blk_cell BP_24.out 0).trans rfl, (blk_cell BQ_25.out 0).trans rfl⟩ (fun hHeld => ?_)
     clear hK K
     refine norm_ (a' := ?_) ?_ ?_
     rotate_left
     ·show Act.put _ (some 13) _ = _
      simp only [Act.put, List.setIfInBounds_toArray, List.set_cons_zero, List.set_cons_succ, i64_w, i32_w]
      rfl
     refine two_ (i := 7) (j := 9) (Ni := some 14) (Nj := some 6) #[true, true, true, true, true, true, true, true, false, false, false] #[true, true, true, true, true, true, true, false, false, true, false] rfl rfl rfl rfl (two_of HT_.out (by kernel_rfl)) (by decide) (by decide) (fun K hK => ?_) (fun K hK => ?_)
     ·refine goes_ Try.func89 (by kernel_rfl) rfl #[.slice (some ⟨gb, 0, none⟩) 2 2] (by rfl) rfl rfl (by (try simp only [List.map_toArray, List.map_cons, List.map_nil]); first | done | rfl) ?_
      with_reducible refine (impl_Do_89.calls gb _ _ p q _ _ w.heap.size w23 HB_27.out.size BG_32.out SP_29.out SQ_31.out (fun k h1 h2 => by omega) HPQ.out.1 HPQ.out.2).mono ?_
      rintro e w33 ⟨vr, rfl, hS, hb⟩
      refine ⟨_, rfl, ?_⟩
      rw [HRR.out] at hS
      obtain ⟨Ar, cr, rfl⟩ := Kd.S_slice hS
      have BP_34 := am_ (blk_below BP_24.out hb)
      have BQ_35 := am_ (blk_below BQ_25.out hb)
      have BR_36 := am_ (blk_below BR_26.out hb)
      have HB_37 := am_ (below_then HB_27.out HB_27.out.size hb)
      have SZ_38 := am_ (Nat.le_trans SZ_28.out hb.size)
      have NP_39 := am_ (Nat.le_trans NP_30.out hb.size)
      clear BP_24 BQ_25 BR_26 HB_27 SZ_28 NP_30
      have SR_40 := am_ (Kd.S_mono (ok' := fun _ => True) hS (fun _ _ => trivial))
      clear hS hb
      refine hK.out _ _ ⟨(blk_cell BP_34.out 0).trans rfl, (blk_cell BQ_35.out 0).trans rfl⟩ (fun hHeld => ?_)
      clear hK K
      refine norm_ (a' := ?_) ?_ ?_
      rotate_left
      ·show Act.put _ (some 14) _ = _
       simp only [Act.put, List.setIfInBounds_toArray, List.set_cons_zero, List.set_cons_succ, i64_w, i32_w]
       rfl
      refine pure_ (i := 8) (N := some 15) (v := ?_) (a' := ?_) #[true, true, true, true, true, true, true, true, true, false, false] rfl rfl (any_of HT_.out (by kernel_rfl)) (fun _ _ _ h => h) (Or.inl ⟨by rfl, ?_⟩) ?_ ?_
      rotate_left
      ·intro w'
       go_simp
       with_reducible rfl
      rotate_left
      ·simp only [Act.put, List.setIfInBounds_toArray, List.set_cons_zero, List.set_cons_succ, i64_w, i32_w]
       rfl
      refine one_ (i := 9) (N := some 6) #[true, true, true, true, true, true, true, true, true, true, false] rfl rfl (one_of HT_.out (by kernel_rfl)) (by decide) (fun K hK => ?_)
      refine box_step (by rfl) (N := 6) rfl (cs := #[Value.slice none 0 0]) (t := 35) ?hr ?_
      case hr => first | (go_simp; done) | (go_simp; rfl)
      intro gx hgx w41 hbx hb
      have GX := am_ (show w.heap.size + 3 ≤ gx from by rw [hgx]; exact SZ_38.out)
      have BP_42 := am_ (blk_below BP_34.out hb)
      have BQ_43 := am_ (blk_below BQ_35.out hb)
      have BR_44 := am_ (blk_below BR_36.out hb)
      have HB_45 := am_ (below_then HB_37.out HB_37.out.size hb)
      have SZ_46 := am_ (Nat.le_trans SZ_38.out hb.size)
      have NP_47 := am_ (Nat.le_trans NP_39.out hb.size)
      have SR_48 := am_ (Kd.S_below SR_40.out hb)
      clear BP_34 BQ_35 BR_36 HB_37 SZ_38 NP_39 SR_40
      have BX_49 := am_ (hbx)
      clear hbx hb hgx
      refine hK.out _ _ ⟨(blk_cell BP_42.out 0).trans rfl, (blk_cell BQ_43.out 0).trans rfl⟩ (fun hHeld => ?_)
      clear hK K
      refine norm_ (a' := ?_) ?_ ?_
      rotate_left
      ·show Act.put _ (some 6) _ = _
       simp only [Act.put, List.setIfInBounds_toArray, List.set_cons_zero, List.set_cons_succ, i64_w, i32_w]
       rfl
      have zz := hCont (.slice Ap p.length cp, .slice Aq q.length cq, gb, .slice Ar r.length cr, gx) _ ⟨⟨(blk_cell BP_42.out 0).trans rfl, (blk_cell BQ_43.out 0).trans rfl⟩, BP_42.out, BQ_43.out, BR_44.out, BX_49.out, SR_48.out, HB_45.out, GX.out⟩
      simp only [putAll, Act.put, List.setIfInBounds_toArray, List.set_cons_zero, List.set_cons_succ] at zz
      exact zz
     ·refine box_step (by rfl) (N := 6) rfl (cs := #[Value.slice none 0 0]) (t := 35) ?hr ?_
      case hr => first | (go_simp; done) | (go_simp; rfl)
      intro gx hgx w33 hbx hb
      have GX := am_ (show w.heap.size + 3 ≤ gx from by rw [hgx]; exact SZ_28.out)
      have BP_34 := am_ (blk_below BP_24.out hb)
      have BQ_35 := am_ (blk_below BQ_25.out hb)
      have BR_36 := am_ (blk_below BR_26.out hb)
      have HB_37 := am_ (below_then HB_27.out HB_27.out.size hb)
      have SZ_38 := am_ (Nat.le_trans SZ_28.out hb.size)
      have SP_39 := am_ (Kd.S_below SP_29.out hb)
      have NP_40 := am_ (Nat.le_trans NP_30.out hb.size)
      have SQ_41 := am_ (Kd.S_below SQ_31.out hb)
      have BG_42 := am_ (blk_below BG_32.out hb)
      clear BP_24 BQ_25 BR_26 HB_27 SZ_28 SP_29 NP_30 SQ_31 BG_32
      have BX_43 := am_ (hbx)
      clear hbx hb hgx
      refine hK.out _ _ ⟨(blk_cell BP_34.out 0).trans rfl, (blk_cell BQ_35.out 0).trans rfl⟩ (fun hHeld => ?_)
      clear hK K
      refine norm_ (a' := ?_) ?_ ?_
      rotate_left
      ·show Act.put _ (some 6) _ = _
       simp only [Act.put, List.setIfInBounds_toArray, List.set_cons_zero, List.set_cons_succ, i64_w, i32_w]
       rfl
      refine one_ (i := 7) (N := some 14) #[true, true, true, true, true, true, true, true, false, true, false] rfl rfl (one_of HT_.out (by kernel_rfl)) (by decide) (fun K hK => ?_)
      refine goes_ Try.func89 (by kernel_rfl) rfl #[.slice (some ⟨gb, 0, none⟩) 2 2] (by rfl) rfl rfl (by (try simp only [List.map_toArray, List.map_cons, List.map_nil]); first | done | rfl) ?_
      with_reducible refine (impl_Do_89.calls gb _ _ p q _ _ w.heap.size w33 HB_37.out.size BG_42.out SP_39.out SQ_41.out (fun k h1 h2 => by omega) HPQ.out.1 HPQ.out.2).mono ?_
      rintro e w44 ⟨vr, rfl, hS, hb⟩
      refine ⟨_, rfl, ?_⟩
      rw [HRR.out] at hS
      obtain ⟨Ar, cr, rfl⟩ := Kd.S_slice hS
      have BP_45 := am_ (blk_below BP_34.out hb)
      have BQ_46 := am_ (blk_below BQ_35.out hb)
      have BR_47 := am_ (blk_below BR_36.out hb)
      have HB_48 := am_ (below_then HB_37.out HB_37.out.size hb)
      have SZ_49 := am_ (Nat.le_trans SZ_38.out hb.size)
      have NP_50 := am_ (Nat.le_trans NP_40.out hb.size)
      have BX_51 := am_ (blk_below BX_43.out hb)
      clear BP_34 BQ_35 BR_36 HB_37 SZ_38 NP_40 BX_43
      have SR_52 := am_ (Kd.S_mono (ok' := fun _ => True) hS (fun _ _ => trivial))
      clear hS hb
      refine hK.out _ _ ⟨(blk_cell BP_45.out 0).trans rfl, (blk_cell BQ_46.out 0).trans rfl⟩ (fun hHeld => ?_)
      clear hK K
      refine norm_ (a' := ?_) ?_ ?_
      rotate_left
      ·show Act.put _ (some 14) _ = _
       simp only [Act.put, List.setIfInBounds_toArray, List.set_cons_zero, List.set_cons_succ, i64_w, i32_w]
       rfl
      refine pure_ (i := 8) (N := some 15) (v := ?_) (a' := ?_) #[true, true, true, true, true, true, true, true, true, true, false] rfl rfl (any_of HT_.out (by kernel_rfl)) (fun _ _ _ h => h) (Or.inl ⟨by rfl, ?_⟩) ?_ ?_
      rotate_left
      ·intro w'
       go_simp
       with_reducible rfl
      rotate_left
      ·simp only [Act.put, List.setIfInBounds_toArray, List.set_cons_zero, List.set_cons_succ, i64_w, i32_w]
       rfl
      have zz := hCont (.slice Ap p.length cp, .slice Aq q.length cq, gb, .slice Ar r.length cr, gx) _ ⟨⟨(blk_cell BP_45.out 0).trans rfl, (blk_cell BQ_46.out 0).trans rfl⟩, BP_45.out, BQ_46.out, BR_47.out, BX_51.out, SR_52.out, HB_48.out, GX.out⟩
      simp only [putAll, Act.put, List.setIfInBounds_toArray, List.set_cons_zero, List.set_cons_succ] at zz
      exact zz
    ·refine box_step (by rfl) (N := 6) rfl (cs := #[Value.slice none 0 0]) (t := 35) ?hr ?_
     case hr => first | (go_simp; done) | (go_simp; rfl)
     intro gx hgx w23 hbx hb
     have GX := am_ (show w.heap.size + 3 ≤ gx from by rw [hgx]; exact SZ_19.out)
     have BP_24 := am_ (blk_below BP_15.out hb)
     have BQ_25 := am_ (blk_below BQ_16.out hb)
     have BR_26 := am_ (blk_below BR_17.out hb)
     have HB_27 := am_ (below_then HB_18.out HB_18.out.size hb)
     have SZ_28 := am_ (Nat.le_trans SZ_19.out hb.size)
     have SP_29 := am_ (Kd.S_below SP_20.out hb)
     have NP_30 := am_ (Nat.le_trans NP_21.out hb.size)
     have SQ_31 := am_ (Kd.S_below SQ_22.out hb)
     clear BP_15 BQ_16 BR_17 HB_18 SZ_19 SP_20 NP_21 SQ_22
     have BX_32 := am_ (hbx)
     clear hbx hb hgx
     refine hK.out _ _ ⟨(blk_cell BP_24.out 0).trans rfl, (blk_cell BQ_25.out 0).trans rfl⟩ (fun hHeld => ?_)
     clear hK K
     refine norm_ (a' := ?_) ?_ ?_
     rotate_left
     ·show Act.put _ (some 6) _ = _
      simp only [Act.put, List.setIfInBounds_toArray, List.set_cons_zero, List.set_cons_succ, i64_w, i32_w]
      rfl
     refine one_ (i := 6) (N := some 13) #[true, true, true, true, true, true, true, false, false, true, false] rfl rfl (one_of HT_.out (by kernel_rfl)) (by decide) (fun K hK => ?_)
     refine value_ (w1 := ?_) (v := ?_) (by rfl) rfl ?_ ?_
     rotate_left 2
     ·go_simp
      constructor
      ·rfl
      ·rfl
     have hbx := heap_alloc_new w23 (Obj.cells #[Value.slice Ap p.length cp, Value.slice Aq q.length cq] 33)
     have hb := below_alloc (Below.refl w23.heap.size w23) (Obj.cells #[Value.slice Ap p.length cp, Value.slice Aq q.length cq] 33)
     have BP_34 := am_ (blk_below BP_24.out hb)
     have BQ_35 := am_ (blk_below BQ_25.out hb)
     have BR_36 := am_ (blk_below BR_26.out hb)
     have HB_37 := am_ (below_then HB_27.out HB_27.out.size hb)
     have SZ_38 := am_ (Nat.le_trans SZ_28.out hb.size)
     have SP_39 := am_ (Kd.S_below SP_29.out hb)
     have NP_40 := am_ (Nat.le_trans NP_30.out hb.size)
     have SQ_41 := am_ (Kd.S_below SQ_31.out hb)
     have BX_42 := am_ (blk_below BX_32.out hb)
     clear BP_24 BQ_25 BR_26 HB_27 SZ_28 SP_29 NP_30 SQ_31 BX_32
     have BG_43 := am_ (hbx)
     generalize w23.alloc (Obj.cells #[Value.slice Ap p.length cp, Value.slice Aq q.length cq] 33) = w33 at *
     generalize w23.heap.size = gb at *
     clear hbx hb
     refine hK.out _ _ ⟨(blk_cell BP_34.out 0).trans rfl, (blk_cell BQ_35.out 0).trans rfl⟩ (fun hHeld => ?_)
     clear hK K
     refine norm_ (a' := ?_) ?_ ?_
     rotate_left
     ·show Act.put _ (some 13) _ = _
      simp only [Act.put, List.setIfInBounds_toArray, List.set_cons_zero, List.set_cons_succ, i64_w, i32_w]
      rfl
     refine one_ (i := 7) (N := some 14) #[true, true, true, true, true, true, true, true, false, true, false] rfl rfl (one_of HT_.out (by kernel_rfl)) (by decide) (fun K hK => ?_)
     refine goes_ Try.func89 (by kernel_rfl) rfl #[.slice (some ⟨gb, 0, none⟩) 2 2] (by rfl) rfl rfl (by (try simp only [List.map_toArray, List.map_cons, List.map_nil]); first | done | rfl) ?_
     with_reducible refine (impl_Do_89.calls gb _ _ p q _ _ w.heap.size w33 HB_37.out.size BG_43.out SP_39.out SQ_41.out (fun k h1 h2 => by omega) HPQ.out.1 HPQ.out.2).mono ?_
     rintro e w44 ⟨vr, rfl, hS, hb⟩
     refine ⟨_, rfl, ?_⟩
     rw [HRR.out] at hS
     obtain ⟨Ar, cr, rfl⟩ := Kd.S_slice hS
     have BP_45 := am_ (blk_below BP_34.out hb)
     have BQ_46 := am_ (blk_below BQ_35.out hb)
     have BR_47 := am_ (blk_below BR_36.out hb)
     have HB_48 := am_ (below_then HB_37.out HB_37.out.size hb)
     have SZ_49 := am_ (Nat.le_trans SZ_38.out hb.size)
     have NP_50 := am_ (Nat.le_trans NP_40.out hb.size)
     have BX_51 := am_ (blk_below BX_42.out hb)
     clear BP_34 BQ_35 BR_36 HB_37 SZ_38 NP_40 BX_42
     have SR_52 := am_ (Kd.S_mono (ok' := fun _ => True) hS (fun _ _ => trivial))
     clear hS hb
     refine hK.out _ _ ⟨(blk_cell BP_45.out 0).trans rfl, (blk_cell BQ_46.out 0).trans rfl⟩ (fun hHeld => ?_)
     clear hK K
     refine norm_ (a' := ?_) ?_ ?_
     rotate_left
     ·show Act.put _ (some 14) _ = _
      simp only [Act.put, List.setIfInBounds_toArray, List.set_cons_zero, List.set_cons_succ, i64_w, i32_w]
      rfl
     refine pure_ (i := 8) (N := some 15) (v := ?_) (a' := ?_) #[true, true, true, true, true, true, true, true, true, true, false] rfl rfl (any_of HT_.out (by kernel_rfl)) (fun _ _ _ h => h) (Or.inl ⟨by rfl, ?_⟩) ?_ ?_
     rotate_left
     ·intro w'
      go_simp
      with_reducible rfl
     rotate_left
     ·simp only [Act.put, List.setIfInBounds_toArray, List.set_cons_zero, List.set_cons_succ, i64_w, i32_w]
      rfl
     have zz := hCont (.slice Ap p.length cp, .slice Aq q.length cq, gb, .slice Ar r.length cr, gx) _ ⟨⟨(blk_cell BP_45.out 0).trans rfl, (blk_cell BQ_46.out 0).trans rfl⟩, BP_45.out, BQ_46.out, BR_47.out, BX_51.out, SR_52.out, HB_48.out, GX.out⟩
     simp only [putAll, Act.put, List.setIfInBounds_toArray, List.set_cons_zero, List.set_cons_succ] at zz
     exact zz
   ·refine box_step (by rfl) (N := 6) rfl (cs := #[Value.slice none 0 0]) (t := 35) ?hr ?_
    case hr => first | (go_simp; done) | (go_simp; rfl)
    intro gx hgx w14 hbx hb
    have GX := am_ (show w.heap.size + 3 ≤ gx from by rw [hgx]; exact SZ_11.out)
    have BP_15 := am_ (blk_below BP_7.out hb)
    have BQ_16 := am_ (blk_below BQ_8.out hb)
    have BR_17 := am_ (blk_below BR_9.out hb)
    have HB_18 := am_ (below_then HB_10.out HB_10.out.size hb)
    have SZ_19 := am_ (Nat.le_trans SZ_11.out hb.size)
    have SP_20 := am_ (Kd.S_below SP_12.out hb)
    have NP_21 := am_ (Nat.le_trans NP_13.out hb.size)
    clear BP_7 BQ_8 BR_9 HB_10 SZ_11 SP_12 NP_13
    have BX_22 := am_ (hbx)
    clear hbx hb hgx
    refine hK.out _ _ ⟨(blk_cell BP_15.out 0).trans rfl, (blk_cell BQ_16.out 0).trans rfl⟩ (fun hHeld => ?_)
    clear hK K
    refine norm_ (a' := ?_) ?_ ?_
    rotate_left
    ·show Act.put _ (some 6) _ = _
     simp only [Act.put, List.setIfInBounds_toArray, List.set_cons_zero, List.set_cons_succ, i64_w, i32_w]
     rfl
    refine one_ (i := 4) (N := some 11) #[true, true, true, true, true, false, false, false, false, true, false] rfl rfl (one_of HT_.out (by kernel_rfl)) (by decide) (fun K hK => ?_)
    refine goes_ Try.func90 (by kernel_rfl) rfl #[.agg #[.slice A1 l1.length c1]] (by rfl) rfl rfl (by (try simp only [List.map_toArray, List.map_cons, List.map_nil]); first | done | rfl) ?_
    with_reducible refine (impl_Prog_copied.calls k _ _ l1 q _ (Kd.C_below C1.out HB_18.out) L1.out E2.out).mono ?_
    rintro e w23 ⟨vq, rfl, hS, hb⟩
    refine ⟨_, rfl, ?_⟩
    obtain ⟨Aq, cq, rfl⟩ := Kd.S_slice hS
    have hle : w.heap.size ≤ w14.heap.size := HB_18.out.size
    have hq0 : w6.heap.size ≤ w14.heap.size := NP_21.out
    have BP_24 := am_ (blk_below BP_15.out hb)
    have BQ_25 := am_ (blk_below BQ_16.out hb)
    have BR_26 := am_ (blk_below BR_17.out hb)
    have HB_27 := am_ (below_then HB_18.out HB_18.out.size hb)
    have SZ_28 := am_ (Nat.le_trans SZ_19.out hb.size)
    have SP_29 := am_ (Kd.S_below SP_20.out hb)
    have NP_30 := am_ (Nat.le_trans NP_21.out hb.size)
    have BX_31 := am_ (blk_below BX_22.out hb)
    clear BP_15 BQ_16 BR_17 HB_18 SZ_19 SP_20 NP_21 BX_22
    have SQ_32 := am_ (Kd.S_lower (Kd.S_mono (ok' := fun k => w6.heap.size ≤ k) (Kd.S_bound hS) (fun k hk => Nat.le_trans hq0 hk.2.1)) hle)
    clear hS hb hq0 hle
    refine hK.out _ _ ⟨(blk_cell BP_24.out 0).trans rfl, (blk_cell BQ_25.out 0).trans rfl⟩ (fun hHeld => ?_)
    clear hK K
    refine norm_ (a' := ?_) ?_ ?_
    rotate_left
    ·show Act.put _ (some 11) _ = _
     simp only [Act.put, List.setIfInBounds_toArray, List.set_cons_zero, List.set_cons_succ, i64_w, i32_w]
     rfl
    refine pure_ (i := 5) (N := some 12) (v := ?_) (a' := ?_) #[true, true, true, true, true, true, false, false, false, true, false] rfl rfl (any_of HT_.out (by kernel_rfl)) (fun _ _ _ h => h) (Or.inl ⟨by rfl, ?_⟩) ?_ ?_
    rotate_left
    ·intro w'
     go_simp
     with_reducible rfl
    rotate_left
    ·simp only [Act.put, List.setIfInBounds_toArray, List.set_cons_zero, List.set_cons_succ, i64_w, i32_w]
     rfl
    refine one_ (i := 6) (N := some 13) #[true, true, true, true, true, true, true, false, false, true, false] rfl rfl (one_of HT_.out (by kernel_rfl)) (by decide) (fun K hK => ?_)
    refine value_ (w1 := ?_) (v := ?_) (by rfl) rfl ?_ ?_
    rotate_left 2
    ·go_simp
     constructor
     ·rfl
     ·rfl
    have hbx := heap_alloc_new w23 (Obj.cells #[Value.slice Ap p.length cp, Value.slice Aq q.length cq] 33)
    have hb := below_alloc (Below.refl w23.heap.size w23) (Obj.cells #[Value.slice Ap p.length cp, Value.slice Aq q.length cq] 33)
    have BP_34 := am_ (blk_below BP_24.out hb)
    have BQ_35 := am_ (blk_below BQ_25.out hb)
    have BR_36 := am_ (blk_below BR_26.out hb)
    have HB_37 := am_ (below_then HB_27.out HB_27.out.size hb)
    have SZ_38 := am_ (Nat.le_trans SZ_28.out hb.size)
    have SP_39 := am_ (Kd.S_below SP_29.out hb)
    have NP_40 := am_ (Nat.le_trans NP_30.out hb.size)
    have BX_41 := am_ (blk_below BX_31.out hb)
    have SQ_42 := am_ (Kd.S_below SQ_32.out hb)
    clear BP_24 BQ_25 BR_26 HB_27 SZ_28 SP_29 NP_30 BX_31 SQ_32
    have BG_43 := am_ (hbx)
    generalize w23.alloc (Obj.cells #[Value.slice Ap p.length cp, Value.slice Aq q.length cq] 33) = w33 at *
    generalize w23.heap.size = gb at *
    clear hbx hb
    refine hK.out _ _ ⟨(blk_cell BP_34.out 0).trans rfl, (blk_cell BQ_35.out 0).trans rfl⟩ (fun hHeld => ?_)
    clear hK K
    refine norm_ (a' := ?_) ?_ ?_
    rotate_left
    ·show Act.put _ (some 13) _ = _
     simp only [Act.put, List.setIfInBounds_toArray, List.set_cons_zero, List.set_cons_succ, i64_w, i32_w]
     rfl
    refine one_ (i := 7) (N := some 14) #[true, true, true, true, true, true, true, true, false, true, false] rfl rfl (one_of HT_.out (by kernel_rfl)) (by decide) (fun K hK => ?_)
    refine goes_ Try.func89 (by kernel_rfl) rfl #[.slice (some ⟨gb, 0, none⟩) 2 2] (by rfl) rfl rfl (by (try simp only [List.map_toArray, List.map_cons, List.map_nil]); first | done | rfl) ?_
    with_reducible refine (impl_Do_89.calls gb _ _ p q _ _ w.heap.size w33 HB_37.out.size BG_43.out SP_39.out SQ_42.out (fun k h1 h2 => by omega) HPQ.out.1 HPQ.out.2).mono ?_
    rintro e w44 ⟨vr, rfl, hS, hb⟩
    refine ⟨_, rfl, ?_⟩
    rw [HRR.out] at hS
    obtain ⟨Ar, cr, rfl⟩ := Kd.S_slice hS
    have BP_45 := am_ (blk_below BP_34.out hb)
    have BQ_46 := am_ (blk_below BQ_35.out hb)
    have BR_47 := am_ (blk_below BR_36.out hb)
    have HB_48 := am_ (below_then HB_37.out HB_37.out.size hb)
    have SZ_49 := am_ (Nat.le_trans SZ_38.out hb.size)
    have NP_50 := am_ (Nat.le_trans NP_40.out hb.size)
    have BX_51 := am_ (blk_below BX_41.out hb)
    clear BP_34 BQ_35 BR_36 HB_37 SZ_38 NP_40 BX_41
    have SR_52 := am_ (Kd.S_mono (ok' := fun _ => True) hS (fun _ _ => trivial))
    clear hS hb
    refine hK.out _ _ ⟨(blk_cell BP_45.out 0).trans rfl, (blk_cell BQ_46.out 0).trans rfl⟩ (fun hHeld => ?_)
    clear hK K
    refine norm_ (a' := ?_) ?_ ?_
    rotate_left
    ·show Act.put _ (some 14) _ = _
     simp only [Act.put, List.setIfInBounds_toArray, List.set_cons_zero, List.set_cons_succ, i64_w, i32_w]
     rfl
    refine pure_ (i := 8) (N := some 15) (v := ?_) (a' := ?_) #[true, true, true, true, true, true, true, true, true, true, false] rfl rfl (any_of HT_.out (by kernel_rfl)) (fun _ _ _ h => h) (Or.inl ⟨by rfl, ?_⟩) ?_ ?_
    rotate_left
    ·intro w'
     go_simp
     with_reducible rfl
    rotate_left
    ·simp only [Act.put, List.setIfInBounds_toArray, List.set_cons_zero, List.set_cons_succ, i64_w, i32_w]
     rfl
    have zz := hCont (.slice Ap p.length cp, .slice Aq q.length cq, gb, .slice Ar r.length cr, gx) _ ⟨⟨(blk_cell BP_45.out 0).trans rfl, (blk_cell BQ_46.out 0).trans rfl⟩, BP_45.out, BQ_46.out, BR_47.out, BX_51.out, SR_52.out, HB_48.out, GX.out⟩
    simp only [putAll, Act.put, List.setIfInBounds_toArray, List.set_cons_zero, List.set_cons_succ] at zz
    exact zz
  ·refine box_step (by rfl) (N := 6) rfl (cs := #[Value.slice none 0 0]) (t := 35) ?hr ?_
   case hr => first | (go_simp; done) | (go_simp; rfl)
   intro gx hgx w6 hbx hb
   have GX := am_ (show w.heap.size + 3 ≤ gx from by rw [hgx]; exact SZ_5.out)
   have BP_7 := am_ (blk_below BP_1.out hb)
   have BQ_8 := am_ (blk_below BQ_2.out hb)
   have BR_9 := am_ (blk_below BR_3.out hb)
   have HB_10 := am_ (below_then HB_4.out HB_4.out.size hb)
   have SZ_11 := am_ (Nat.le_trans SZ_5.out hb.size)
   clear BP_1 BQ_2 BR_3 HB_4 SZ_5
   have BX_12 := am_ (hbx)
   clear hbx hb hgx
   refine hK.out _ _ ⟨(blk_cell BP_7.out 0).trans rfl, (blk_cell BQ_8.out 0).trans rfl⟩ (fun hHeld => ?_)
   clear hK K
   refine norm_ (a' := ?_) ?_ ?_
   rotate_left
   ·show Act.put _ (some 6) _ = _
    simp only [Act.put, List.setIfInBounds_toArray, List.set_cons_zero, List.set_cons_succ, i64_w, i32_w]
    rfl
   refine one_ (i := 1) (N := some 8) #[true, true, false, true, false, false, false, false, false, true, false] rfl rfl (one_of HT_.out (by kernel_rfl)) (by decide) (fun K hK => ?_)
   refine goes_ Try.func90 (by kernel_rfl) rfl #[.agg #[.slice A0 l0.length c0]] (by rfl) rfl rfl (by (try simp only [List.map_toArray, List.map_cons, List.map_nil]); first | done | rfl) ?_
   with_reducible refine (impl_Prog_copied.calls k _ _ l0 p _ (Kd.C_below C0.out HB_10.out) L0.out E1.out).mono ?_
   rintro e w13 ⟨vp, rfl, hS, hb⟩
   refine ⟨_, rfl, ?_⟩
   obtain ⟨Ap, cp, rfl⟩ := Kd.S_slice hS
   have hle : w.heap.size ≤ w6.heap.size := HB_10.out.size
   have BP_14 := am_ (blk_below BP_7.out hb)
   have BQ_15 := am_ (blk_below BQ_8.out hb)
   have BR_16 := am_ (blk_below BR_9.out hb)
   have HB_17 := am_ (below_then HB_10.out HB_10.out.size hb)
   have SZ_18 := am_ (Nat.le_trans SZ_11.out hb.size)
   have BX_19 := am_ (blk_below BX_12.out hb)
   clear BP_7 BQ_8 BR_9 HB_10 SZ_11 BX_12
   have SP_20 := am_ (Kd.S_lower (Kd.S_mono (ok' := fun k => k < w13.heap.size) (Kd.S_bound hS) (fun k hk => hk.2.2.1)) hle)
   have NP_21 := am_ (Nat.le_refl w13.heap.size)
   clear hS hb hle
   refine hK.out _ _ ⟨(blk_cell BP_14.out 0).trans rfl, (blk_cell BQ_15.out 0).trans rfl⟩ (fun hHeld => ?_)
   clear hK K
   refine norm_ (a' := ?_) ?_ ?_
   rotate_left
   ·show Act.put _ (some 8) _ = _
    simp only [Act.put, List.setIfInBounds_toArray, List.set_cons_zero, List.set_cons_succ, i64_w, i32_w]
    rfl
   refine pure_ (i := 2) (N := some 9) (v := ?_) (a' := ?_) #[true, true, true, true, false, false, false, false, false, true, false] rfl rfl (any_of HT_.out (by kernel_rfl)) (fun _ _ _ h => h) (Or.inl ⟨by rfl, ?_⟩) ?_ ?_
   rotate_left
   ·intro w'
    go_simp
    with_reducible rfl
   rotate_left
   ·simp only [Act.put, List.setIfInBounds_toArray, List.set_cons_zero, List.set_cons_succ, i64_w, i32_w]
    rfl
   refine one_ (i := 4) (N := some 11) #[true, true, true, true, true, false, false, false, false, true, false] rfl rfl (one_of HT_.out (by kernel_rfl)) (by decide) (fun K hK => ?_)
   refine goes_ Try.func90 (by kernel_rfl) rfl #[.agg #[.slice A1 l1.length c1]] (by rfl) rfl rfl (by (try simp only [List.map_toArray, List.map_cons, List.map_nil]); first | done | rfl) ?_
   with_reducible refine (impl_Prog_copied.calls k _ _ l1 q _ (Kd.C_below C1.out HB_17.out) L1.out E2.out).mono ?_
   rintro e w22 ⟨vq, rfl, hS, hb⟩
   refine ⟨_, rfl, ?_⟩
   obtain ⟨Aq, cq, rfl⟩ := Kd.S_slice hS
   have hle : w.heap.size ≤ w13.heap.size := HB_17.out.size
   have hq0 : w13.heap.size ≤ w13.heap.size := NP_21.out
   have BP_23 := am_ (blk_below BP_14.out hb)
   have BQ_24 := am_ (blk_below BQ_15.out hb)
   have BR_25 := am_ (blk_below BR_16.out hb)
   have HB_26 := am_ (below_then HB_17.out HB_17.out.size hb)
   have SZ_27 := am_ (Nat.le_trans SZ_18.out hb.size)
   have BX_28 := am_ (blk_below BX_19.out hb)
   have SP_29 := am_ (Kd.S_below SP_20.out hb)
   have NP_30 := am_ (Nat.le_trans NP_21.out hb.size)
   clear BP_14 BQ_15 BR_16 HB_17 SZ_18 BX_19 SP_20 NP_21
   have SQ_31 := am_ (Kd.S_lower (Kd.S_mono (ok' := fun k => w13.heap.size ≤ k) (Kd.S_bound hS) (fun k hk => Nat.le_trans hq0 hk.2.1)) hle)
   clear hS hb hq0 hle
   refine hK.out _ _ ⟨(blk_cell BP_23.out 0).trans rfl, (blk_cell BQ_24.out 0).trans rfl⟩ (fun hHeld => ?_)
   clear hK K
   refine norm_ (a' := ?_) ?_ ?_
   rotate_left
   ·show Act.put _ (some 11) _ = _
    simp only [Act.put, List.setIfInBounds_toArray, List.set_cons_zero, List.set_cons_succ, i64_w, i32_w]
    rfl
   refine pure_ (i := 5) (N := some 12) (v := ?_) (a' := ?_) #[true, true, true, true, true, true, false, false, false, true, false] rfl rfl (any_of HT_.out (by kernel_rfl)) (fun _ _ _ h => h) (Or.inl ⟨by rfl, ?_⟩) ?_ ?_
   rotate_left
   ·intro w'
    go_simp
    with_reducible rfl
   rotate_left
   ·simp only [Act.put, List.setIfInBounds_toArray, List.set_cons_zero, List.set_cons_succ, i64_w, i32_w]
    rfl
   refine one_ (i := 6) (N := some 13) #[true, true, true, true, true, true, true, false, false, true, false] rfl rfl (one_of HT_.out (by kernel_rfl)) (by decide) (fun K hK => ?_)
   refine value_ (w1 := ?_) (v := ?_) (by rfl) rfl ?_ ?_
   rotate_left 2
   ·go_simp
    constructor
    ·rfl
    ·rfl
   have hbx := heap_alloc_new w22 (Obj.cells #[Value.slice Ap p.length cp, Value.slice Aq q.length cq] 33)
   have hb := below_alloc (Below.refl w22.heap.size w22) (Obj.cells #[Value.slice Ap p.length cp, Value.slice Aq q.length cq] 33)
   have BP_33 := am_ (blk_below BP_23.out hb)
   have BQ_34 := am_ (blk_below BQ_24.out hb)
   have BR_35 := am_ (blk_below BR_25.out hb)
   have HB_36 := am_ (below_then HB_26.out HB_26.out.size hb)
   have SZ_37 := am_ (Nat.le_trans SZ_27.out hb.size)
   have BX_38 := am_ (blk_below BX_28.out hb)
   have SP_39 := am_ (Kd.S_below SP_29.out hb)
   have NP_40 := am_ (Nat.le_trans NP_30.out hb.size)
   have SQ_41 := am_ (Kd.S_below SQ_31.out hb)
   clear BP_23 BQ_24 BR_25 HB_26 SZ_27 BX_28 SP_29 NP_30 SQ_31
   have BG_42 := am_ (hbx)
   generalize w22.alloc (Obj.cells #[Value.slice Ap p.length cp, Value.slice Aq q.length cq] 33) = w32 at *
   generalize w22.heap.size = gb at *
   clear hbx hb
   refine hK.out _ _ ⟨(blk_cell BP_33.out 0).trans rfl, (blk_cell BQ_34.out 0).trans rfl⟩ (fun hHeld => ?_)
   clear hK K
   refine norm_ (a' := ?_) ?_ ?_
   rotate_left
   ·show Act.put _ (some 13) _ = _
    simp only [Act.put, List.setIfInBounds_toArray, List.set_cons_zero, List.set_cons_succ, i64_w, i32_w]
    rfl
   refine one_ (i := 7) (N := some 14) #[true, true, true, true, true, true, true, true, false, true, false] rfl rfl (one_of HT_.out (by kernel_rfl)) (by decide) (fun K hK => ?_)
   refine goes_ Try.func89 (by kernel_rfl) rfl #[.slice (some ⟨gb, 0, none⟩) 2 2] (by rfl) rfl rfl (by (try simp only [List.map_toArray, List.map_cons, List.map_nil]); first | done | rfl) ?_
   with_reducible refine (impl_Do_89.calls gb _ _ p q _ _ w.heap.size w32 HB_36.out.size BG_42.out SP_39.out SQ_41.out (fun k h1 h2 => by omega) HPQ.out.1 HPQ.out.2).mono ?_
   rintro e w43 ⟨vr, rfl, hS, hb⟩
   refine ⟨_, rfl, ?_⟩
   rw [HRR.out] at hS
   obtain ⟨Ar, cr, rfl⟩ := Kd.S_slice hS
   have BP_44 := am_ (blk_below BP_33.out hb)
   have BQ_45 := am_ (blk_below BQ_34.out hb)
   have BR_46 := am_ (blk_below BR_35.out hb)
   have HB_47 := am_ (below_then HB_36.out HB_36.out.size hb)
   have SZ_48 := am_ (Nat.le_trans SZ_37.out hb.size)
   have BX_49 := am_ (blk_below BX_38.out hb)
   have NP_50 := am_ (Nat.le_trans NP_40.out hb.size)
   clear BP_33 BQ_34 BR_35 HB_36 SZ_37 BX_38 NP_40
   have SR_51 := am_ (Kd.S_mono (ok' := fun _ => True) hS (fun _ _ => trivial))
   clear hS hb
   refine hK.out _ _ ⟨(blk_cell BP_44.out 0).trans rfl, (blk_cell BQ_45.out 0).trans rfl⟩ (fun hHeld => ?_)
   clear hK K
   refine norm_ (a' := ?_) ?_ ?_
   rotate_left
   ·show Act.put _ (some 14) _ = _
    simp only [Act.put, List.setIfInBounds_toArray, List.set_cons_zero, List.set_cons_succ, i64_w, i32_w]
    rfl
   refine pure_ (i := 8) (N := some 15) (v := ?_) (a' := ?_) #[true, true, true, true, true, true, true, true, true, true, false] rfl rfl (any_of HT_.out (by kernel_rfl)) (fun _ _ _ h => h) (Or.inl ⟨by rfl, ?_⟩) ?_ ?_
   rotate_left
   ·intro w'
    go_simp
    with_reducible rfl
   rotate_left
   ·simp only [Act.put, List.setIfInBounds_toArray, List.set_cons_zero, List.set_cons_succ, i64_w, i32_w]
    rfl
   have zz := hCont (.slice Ap p.length cp, .slice Aq q.length cq, gb, .slice Ar r.length cr, gx) _ ⟨⟨(blk_cell BP_44.out 0).trans rfl, (blk_cell BQ_45.out 0).trans rfl⟩, BP_44.out, BQ_45.out, BR_46.out, BX_49.out, SR_51.out, HB_47.out, GX.out⟩
   simp only [putAll, Act.put, List.setIfInBounds_toArray, List.set_cons_zero, List.set_cons_succ] at zz
   exact zz
 rintro ⟨vp, vq, gb, vr, gx⟩ w5 ⟨-, hbP, hbQ, hbR, hbX, hS, hB, hgx⟩
 simp only at hbX hS hgx
 obtain ⟨Ar, cr, rfl⟩ := Kd.S_slice hS
 clear BP_1 BQ_2 BR_3 HB_4 SZ_5
 refine norm_ (a' := ?_) ?_ ?_
 rotate_left
 ·simp only [putAll, Act.put, List.setIfInBounds_toArray, List.set_cons_zero, List.set_cons_succ, i64_w, i32_w]
  rfl
 refine last_ (i := 10) (N := none) #[true, true, true, true, true, true, true, true, true, true, true] rfl rfl (one_of HT_.out (by kernel_rfl)) (by decide) (fun K hK => ?_)
 have hs18 : w5.cell? ⟨gx, 0, none⟩ = some (.slice none 0 0) := (blk_cell hbX 0).trans rfl
 have hfs18 := blk_frozen hbX 0
 refine skip_ (w1 := ?_) (by rfl) rfl ?_ ?_
 rotate_left
 ·go_simp
  rfl
 refine hK.out _ _ ?_
 clear hK K
 refine done_ (done_of HT_.out (by kernel_rfl)) ?_
 clear hs18 hfs18 HT_ HW_ hHeld
 have BP := am_ (blk_far hbP (p := ⟨gx, 0, none⟩) (by show w.heap.size ≠ gx; omega) (.slice Ar r.length cr))
 have BQ := am_ (blk_far hbQ (p := ⟨gx, 0, none⟩) (by show w.heap.size + 1 ≠ gx; omega) (.slice Ar r.length cr))
 have BR := am_ (blk_far hbR (p := ⟨gx, 0, none⟩) (by show w.heap.size + 1 + 1 ≠ gx; omega) (.slice Ar r.length cr))
 have BX := am_ (blk_set hbX 0 (.slice Ar r.length cr))
 have SR := am_ (Kd.S_set hS hbX (by decide) 0 (.slice Ar r.length cr))
 have HB := am_ (below_set (g := gx) (j := 0) (v := .slice Ar r.length cr) hB (by omega))
 generalize w5.setCell ⟨gx, 0, none⟩ (.slice Ar r.length cr) = X0 at *
 clear hbP hbQ hbR hbX hS hB
 have H0 := H.out
 clear H
 obtain ⟨a, ea, H0⟩ := Option.bind_eq_some_iff.mp H0
 have hl : X0.cell? ⟨w.heap.size, 0, none⟩ = some (.slice A0 l0.length c0) := (blk_cell BP.out 0).trans rfl
 go_wp2_with (go_at_call 31; refine park ?_)
 clear hl
 refine ⟨?_⟩
 refine (impl_ProgOk.calls k A0 c0 l0 a _ (Kd.C_below C0.out HB.out) L0.out ea).mono ?_
 rintro e X1 ⟨rfl, hb⟩
 have BP_x0 := am_ (blk_below BP.out hb)
 have BQ_x0 := am_ (blk_below BQ.out hb)
 have BR_x0 := am_ (blk_below BR.out hb)
 have BX_x0 := am_ (blk_below BX.out hb)
 have SR_x0 := am_ (Kd.S_below SR.out hb)
 have HB_x0 := am_ (below_then HB.out HB.out.size hb)
 clear hb BP BQ BR BX SR HB ea
 rcases a with _ | _
 ·rw [if_neg (by simp)] at H0
  have hcr : X1.cell? ⟨w.heap.size + 1 + 1, 0, none⟩ = some (.slice none 0 0) := (blk_cell BR_x0.out 0).trans rfl
  have hfr := blk_frozen BR_x0.out 0
  simp only [Option.some.injEq, Prod.mk.injEq, if_true, if_false, Bool.false_eq_true] at H0
  obtain ⟨rfl, rfl⟩ := H0
  go_wp2_with fail
  refine bodyPost_ret (results_ct rfl _ _ (w.heap.size + 1 + 1) 35 #[.slice none 0 0] (0, 0) _ rfl (blk_set BR_x0.out 0 _) Try.underlying35 rfl (by kernel_rfl)) rfl ?_
  exact ⟨_, rfl, Kd.S_nil _ _ _ _ _, below_set HB_x0.out (by omega)⟩
 rw [if_pos rfl] at H0
 obtain ⟨b, eb, H0⟩ := Option.bind_eq_some_iff.mp H0
 have hl : X1.cell? ⟨w.heap.size + 1, 0, none⟩ = some (.slice A1 l1.length c1) := (blk_cell BQ_x0.out 0).trans rfl
 go_wp2_with (go_at_call 31; refine park ?_)
 clear hl
 refine ⟨?_⟩
 refine (impl_ProgOk.calls k A1 c1 l1 b _ (Kd.C_below C1.out HB_x0.out) L1.out eb).mono ?_
 rintro e X2 ⟨rfl, hb⟩
 have BP_x1 := am_ (blk_below BP_x0.out hb)
 have BQ_x1 := am_ (blk_below BQ_x0.out hb)
 have BR_x1 := am_ (blk_below BR_x0.out hb)
 have BX_x1 := am_ (blk_below BX_x0.out hb)
 have SR_x1 := am_ (Kd.S_below SR_x0.out hb)
 have HB_x1 := am_ (below_then HB_x0.out HB_x0.out.size hb)
 clear hb BP_x0 BQ_x0 BR_x0 BX_x0 SR_x0 HB_x0 eb
 rcases b with _ | _
 ·rw [if_neg (by simp)] at H0
  have hcr : X2.cell? ⟨w.heap.size + 1 + 1, 0, none⟩ = some (.slice none 0 0) := (blk_cell BR_x1.out 0).trans rfl
  have hfr := blk_frozen BR_x1.out 0
  simp only [Option.some.injEq, Prod.mk.injEq, if_true, if_false, Bool.false_eq_true] at H0
  obtain ⟨rfl, rfl⟩ := H0
  go_wp2_with fail
  refine bodyPost_ret (results_ct rfl _ _ (w.heap.size + 1 + 1) 35 #[.slice none 0 0] (0, 0) _ rfl (blk_set BR_x1.out 0 _) Try.underlying35 rfl (by kernel_rfl)) rfl ?_
  exact ⟨_, rfl, Kd.S_nil _ _ _ _ _, below_set HB_x1.out (by omega)⟩
 rw [if_pos rfl] at H0
 obtain ⟨c, ec, H0⟩ := Option.bind_eq_some_iff.mp H0
 have hl : X2.cell? ⟨gx, 0, none⟩ = some (.slice Ar r.length cr) := (blk_cell BX_x1.out 0).trans rfl
 go_wp2_with (go_at_call 31; refine park ?_)
 clear hl
 refine ⟨?_⟩
 refine (impl_ProgOk.calls k Ar cr r c _ (Kd.S_reads' SR_x1.out).2.2 (Kd.S_reads' SR_x1.out).2.1 ec).mono ?_
 rintro e X3 ⟨rfl, hb⟩
 have BP_x2 := am_ (blk_below BP_x1.out hb)
 have BQ_x2 := am_ (blk_below BQ_x1.out hb)
 have BR_x2 := am_ (blk_below BR_x1.out hb)
 have BX_x2 := am_ (blk_below BX_x1.out hb)
 have SR_x2 := am_ (Kd.S_below SR_x1.out hb)
 have HB_x2 := am_ (below_then HB_x1.out HB_x1.out.size hb)
 clear hb BP_x1 BQ_x1 BR_x1 BX_x1 SR_x1 HB_x1 ec
 rcases c with _ | _
 ·have hcr : X3.cell? ⟨w.heap.size + 1 + 1, 0, none⟩ = some (.slice none 0 0) := (blk_cell BR_x2.out 0).trans rfl
  have hfr := blk_frozen BR_x2.out 0
  simp only [Option.some.injEq, Prod.mk.injEq, if_true, if_false, Bool.false_eq_true] at H0
  obtain ⟨rfl, rfl⟩ := H0
  go_wp2_with fail
  refine bodyPost_ret (results_ct rfl _ _ (w.heap.size + 1 + 1) 35 #[.slice none 0 0] (0, 0) _ rfl (blk_set BR_x2.out 0 _) Try.underlying35 rfl (by kernel_rfl)) rfl ?_
  exact ⟨_, rfl, Kd.S_nil _ _ _ _ _, below_set HB_x2.out (by omega)⟩
 ·have hcr : X3.cell? ⟨w.heap.size + 1 + 1, 0, none⟩ = some (.slice none 0 0) := (blk_cell BR_x2.out 0).trans rfl
  have hfr := blk_frozen BR_x2.out 0
  have hcx : X3.cell? ⟨gx, 0, none⟩ = some (.slice Ar r.length cr) := (blk_cell BX_x2.out 0).trans rfl
  simp only [Option.some.injEq, Prod.mk.injEq, if_true, if_false, Bool.false_eq_true] at H0
  obtain ⟨rfl, rfl⟩ := H0
  go_wp2_with fail
  refine bodyPost_ret (results_ct rfl _ _ (w.heap.size + 1 + 1) 35 #[.slice Ar r.length cr] (0, 0) _ rfl (blk_set BR_x2.out 0 _) Try.underlying35 rfl (by kernel_rfl)) rfl ?_
  exact ⟨_, rfl, Kd.S_set SR_x2.out BR_x2.out (by decide) 0 _, below_set HB_x2.out (by omega)⟩


end Go.Proofs.Ytefkbmhkhpekjaa.PB

namespace Go.Proofs.Ytefkbmhkhpekjaa.PB
open Go.RowKit Go.Proofs.YtefkbmhkhpekjaaW.PrintWords Go.Proofs.YtefkbmhkhpekjaaW.PrintLast Go.Proofs.YtefkbmhkhpekjaaW.PrintMore
attribute [local go_sem] max2_int min2_int max_two min_two max_three min_three max_four min_four   -- for this text's walks alone
open Go.Proofs.YtefkbmhkhpekjaaMine
set_option linter.unusedVariables false
set_option linter.unusedSimpArgs false

/-! ### laws_szDoS: function 126 -/
def laws_szDoS.f (l0 : List (S130)) (a1 : Int) : Option (Int) := if (wrap64 (a1 - (l0.length : Int))) < 0 then (some (-1)) else (some (wrap64 (a1 - (l0.length : Int))))
set_option maxHeartbeats 8000000 in
set_option maxRecDepth 100000 in
theorem laws_szDoS.calls (A0 : Option Addr) (c0 : Nat) (l0 : List (S130)) (a1 : Int) (r : Int) (w : World) (hr0 : Kd.C k130 w A0 l0.length l0) (hc0 : l0.length ≤ c0) (h : laws_szDoS.f l0 a1 = some r) :
  Calls Try.prog 126 #[.slice A0 l0.length c0, .int .i64 a1] w fun e w' => e = .returned (.int .i64 r) ∧ Drawn0 w w' := by
 have HR0 := am_ hr0
 have HC0 := am_ hc0
 clear hr0 hc0
 have H : (if (wrap64 (a1 - (l0.length : Int))) < 0 then (some (-1)) else (some (wrap64 (a1 - (l0.length : Int))))) = some r := h
 clear h
 by_cases c3 : (wrap64 (a1 - (l0.length : Int))) < 0
 ·rw [if_pos c3] at H
  have c3b0 : decide ((wrap64 (a1 - (l0.length : Int))) < 0) = true := decide_eq_true c3
  clear c3
  obtain rfl := Option.some.inj H
  go_enter Try.func126, Try.ntmps126
  go_wp2
  go_ret
  exact ⟨by first | rfl | (simp; done) | (simp [*]; done), by repeat (first | exact Drawn0.refl _ | apply Drawn0.step)⟩
 ·rw [if_neg c3] at H
  have c3b0 : decide ((wrap64 (a1 - (l0.length : Int))) < 0) = false := decide_eq_false c3
  clear c3
  obtain rfl := Option.some.inj H
  go_enter Try.func126, Try.ntmps126
  go_wp2
  go_ret
  exact ⟨by first | rfl | (simp; done) | (simp [*]; done), by repeat (first | exact Drawn0.refl _ | apply Drawn0.step)⟩

end Go.Proofs.Ytefkbmhkhpekjaa.PB

namespace Go.Proofs.Ytefkbmhkhpekjaa.PB
open Go.RowKit Go.Proofs.YtefkbmhkhpekjaaW.PrintWords Go.Proofs.YtefkbmhkhpekjaaW.PrintLast Go.Proofs.YtefkbmhkhpekjaaW.PrintMore
attribute [local go_sem] max2_int min2_int max_two min_two max_three min_three max_four min_four   -- for this text's walks alone
open Go.Proofs.YtefkbmhkhpekjaaMine
set_option linter.unusedVariables false
set_option linter.unusedSimpArgs false

theorem z94_1 {p : Prop} (h : p := by first | rfl | (simp; done) | (simp [*]; done)) : p := h
theorem z94_2 {p : Prop} (h : p := by first | (with_reducible assumption) | assumption) : p := h
theorem z94_3 {p : Prop} (h : p := by repeat (first | exact Drawn0.refl _ | apply Drawn0.step)) : p := h
/-! ### laws_szDoSS: function 94 -/
def laws_szDoSS.l0 : Nat → List (List (S130)) → Int → Int → Option (Int)
  | 0, _, _, _ => none
  | k + 1, x0, x1, x5 => if x5 < (x0.length : Int) then (if 0 ≤ x5 then ((laws_szDoS.f (rd_L13 x0 x5) x1).bind fun t886 => (if t886 < 0 then (some (-1)) else (laws_szDoSS.l0 k x0 t886 (wrap64 (x5 + 1))))) else (none)) else (some x1)
def laws_szDoSS.f (k : Nat) (l0 : List (List (S130))) (a1 : Int) : Option (Int) := if (wrap64 (a1 - (l0.length : Int))) < 0 then (some (-1)) else (laws_szDoSS.l0 k l0 (wrap64 (a1 - (l0.length : Int))) 0)
theorem laws_szDoSS.mono_l : ∀ k, (∀ y0 y1 y2, LeO (laws_szDoSS.l0 k y0 y1 y2) (laws_szDoSS.l0 (k + 1) y0 y1 y2))
  | 0 => fun _ _ _ r h => by simp [laws_szDoSS.l0] at h
  | k + 1 => by
    have ih0 := laws_szDoSS.mono_l k
    · intro y0 y1 y2
      unfold laws_szDoSS.l0
      repeat' first
      | (with_reducible exact ih0 _ _ _)
      | (with_reducible exact LeO.refl _)
      | (with_reducible exact LeO.none _)
      | (with_reducible refine LeO.ite ?_ ?_)
      | (with_reducible refine LeO.bind ?_ (fun _ => ?_))
      | exact ih0 _ _ _
      | exact LeO.none _
      | refine LeO.ite ?_ ?_
      | refine LeO.bind ?_ (fun _ => ?_)
theorem laws_szDoSS.mono : ∀ a0 a1 k, LeO (laws_szDoSS.f k a0 a1) (laws_szDoSS.f (k + 1) a0 a1) := by
  intro a0 a1 k
  have ih0 := laws_szDoSS.mono_l k
  unfold laws_szDoSS.f
  repeat' first
      | (with_reducible exact ih0 _ _ _)
      | (with_reducible exact LeO.refl _)
      | (with_reducible exact LeO.none _)
      | (with_reducible refine LeO.ite ?_ ?_)
      | (with_reducible refine LeO.bind ?_ (fun _ => ?_))
      | exact ih0 _ _ _
      | exact LeO.none _
      | refine LeO.ite ?_ ?_
      | refine LeO.bind ?_ (fun _ => ?_)
set_option maxHeartbeats 8000000 in
set_option maxRecDepth 100000 in
theorem laws_szDoSS.calls (k : Nat) (A0 : Option Addr) (c0 : Nat) (l0 : List (List (S130))) (a1 : Int) (r : Int) (w : World) (hr0 : Kd.C (Kd.slice 130 k130) w A0 l0.length l0) (hc0 : l0.length ≤ c0) (h : laws_szDoSS.f k l0 a1 = some r) :
  Calls Try.prog 94 #[.slice A0 l0.length c0, .int .i64 a1] w fun e w' => e = .returned (.int .i64 r) ∧ Drawn0 w w' := by
 have HR0 := am_ hr0
 have HC0 := am_ hc0
 clear hr0 hc0
 have H : (if (wrap64 (a1 - (l0.length : Int))) < 0 then (some (-1)) else (laws_szDoSS.l0 k l0 (wrap64 (a1 - (l0.length : Int))) 0)) = some r := h
 clear h
 by_cases c3 : (wrap64 (a1 - (l0.length : Int))) < 0
 ·rw [if_pos c3] at H
  have c3b0 : decide ((wrap64 (a1 - (l0.length : Int))) < 0) = true := decide_eq_true c3
  clear c3
  obtain rfl := Option.some.inj H
  go_enter Try.func94, Try.ntmps94
  go_wp2
  go_ret
  exact ⟨z94_1, z94_3⟩
 ·rw [if_neg c3] at H
  have c3b0 : decide ((wrap64 (a1 - (l0.length : Int))) < 0) = false := decide_eq_false c3
  clear c3
  have H' := am_ H
  clear H
  go_enter Try.func94, Try.ntmps94
  go_wp2
  go_loopg [1, 5] k (fun kq v1 v5 w' => ∃ (x1_1 : Int) (x5_1 : Int), v1 = .int .i64 x1_1 ∧ v5 = .int .i64 x5_1 ∧ Aside0 (laws_szDoSS.l0 kq l0 x1_1 x5_1 = some r) ∧ Aside0 (kq ≤ k) ∧ Drawn0 w w')
  case atStart => exact ⟨(wrap64 (a1 - (l0.length : Int))), (0), z94_1, z94_1, H', ⟨Nat.le_refl _⟩, z94_3⟩
  case round =>
   clear H'
   obtain ⟨x1_1, x5_1, rfl, rfl, HA, HK1, ⟨m1, rfl⟩⟩ := hrel
   cases gk with
   | zero => exact absurd HA.out (by simp [laws_szDoSS.l0])
   | succ k1 =>
    have H := HA.out
    clear HA
    simp only [laws_szDoSS.l0] at H
    by_cases c4 : x5_1 < (l0.length : Int)
    ·rw [if_pos c4] at H
     have c4b0 : decide (x5_1 < (l0.length : Int)) = true := decide_eq_true c4
     clear c4
     by_cases c5 : 0 ≤ x5_1
     ·rw [if_pos c5] at H
      have c5b0 : decide (0 ≤ x5_1) = true := decide_eq_true c5
      clear c5
      replace H := Option.bind_eq_some_iff.mp H
      obtain ⟨t886, A60, H⟩ := H
      replace H : (if t886 < 0 then (some (-1)) else (laws_szDoSS.l0 k1 l0 t886 (wrap64 (x5_1 + 1)))) = some r := H
      have A6 := am_ A60
      clear A60
      by_cases c7 : t886 < 0
      ·rw [if_pos c7] at H
       have c7b0 : decide (t886 < 0) = true := decide_eq_true c7
       clear c7
       obtain rfl := Option.some.inj H
       have p885 : 0 ≤ (x5_1 : Int) := of_decide_eq_true z94_2
       have q885 : x5_1 < (l0.length : Int) := of_decide_eq_true z94_2
       obtain ⟨ad885, A885_0, c885_0, e885, hx885_0, hl885_0, hi885_0⟩ := at_L13 HR0.out x5_1 p885 q885
       cases e885
       have HR885_0 := am_ hi885_0
       have HC885_0 := am_ hl885_0
       clear hi885_0 hl885_0
       replace p885 := eq_true p885
       replace q885 := eq_true q885
       go_wp2_with (first | ((with_reducible refine gate_callee (f := 126) rfl ?_); refine goesL_ (some 23) rfl rfl Try.func126 (by kernel_rfl) rfl #[.slice A885_0 (rd_L13 l0 x5_1).length c885_0, .int .i64 x1_1] rfl (by (try simp only [List.map_toArray, List.map_cons, List.map_nil]); first | done | rfl | (simp only [List.length_drop, List.length_take]; rfl)) ?_; (with_reducible refine (laws_szDoS.calls _ _ (rd_L13 l0 x5_1) x1_1 t886 _ ?side1 ?side2 A6.out).mono ?_); (case side1 => repeat (first | exact HR885_0.out | (with_reducible refine Kd.C_alloc ?_ _) | (with_reducible refine Kd.C_drewN ?_ _) | (with_reducible refine Kd.C_drew ?_))); (case side2 => exact HC885_0.out); rintro e w' ⟨rfl, ⟨nd, rfl⟩⟩; refine ⟨_, rfl, ?_⟩))
       go_ret
       exact ⟨z94_1, z94_3⟩
      ·rw [if_neg c7] at H
       have c7b0 : decide (t886 < 0) = false := decide_eq_false c7
       clear c7
       have H' := am_ H
       clear H
       have p885 : 0 ≤ (x5_1 : Int) := of_decide_eq_true z94_2
       have q885 : x5_1 < (l0.length : Int) := of_decide_eq_true z94_2
       obtain ⟨ad885, A885_0, c885_0, e885, hx885_0, hl885_0, hi885_0⟩ := at_L13 HR0.out x5_1 p885 q885
       cases e885
       have HR885_0 := am_ hi885_0
       have HC885_0 := am_ hl885_0
       clear hi885_0 hl885_0
       replace p885 := eq_true p885
       replace q885 := eq_true q885
       go_wp2_with (first | ((with_reducible refine gate_callee (f := 126) rfl ?_); refine goesL_ (some 23) rfl rfl Try.func126 (by kernel_rfl) rfl #[.slice A885_0 (rd_L13 l0 x5_1).length c885_0, .int .i64 x1_1] rfl (by (try simp only [List.map_toArray, List.map_cons, List.map_nil]); first | done | rfl | (simp only [List.length_drop, List.length_take]; rfl)) ?_; (with_reducible refine (laws_szDoS.calls _ _ (rd_L13 l0 x5_1) x1_1 t886 _ ?side1 ?side2 A6.out).mono ?_); (case side1 => repeat (first | exact HR885_0.out | (with_reducible refine Kd.C_alloc ?_ _) | (with_reducible refine Kd.C_drewN ?_ _) | (with_reducible refine Kd.C_drew ?_))); (case side2 => exact HC885_0.out); rintro e w' ⟨rfl, ⟨nd, rfl⟩⟩; refine ⟨_, rfl, ?_⟩))
       go_roundg k1
       case measure => have := HK1.out; omega
       case rel => exact ⟨(t886), (wrap64 (x5_1 + 1)), z94_1, z94_1, H', ⟨by have := HK1.out; omega⟩, z94_3⟩
     ·rw [if_neg c5] at H
      exact absurd H (by simp)
    ·rw [if_neg c4] at H
     have c4b0 : decide (x5_1 < (l0.length : Int)) = false := decide_eq_false c4
     clear c4
     obtain rfl := Option.some.inj H
     go_wp2
     go_ret
     exact ⟨z94_1, z94_3⟩

end Go.Proofs.Ytefkbmhkhpekjaa.PB

namespace Go.Proofs.Ytefkbmhkhpekjaa.PB
open Go.RowKit Go.Proofs.YtefkbmhkhpekjaaW.PrintWords Go.Proofs.YtefkbmhkhpekjaaW.PrintLast Go.Proofs.YtefkbmhkhpekjaaW.PrintMore
attribute [local go_sem] max2_int min2_int max_two min_two max_three min_three max_four min_four   -- for this text's walks alone
open Go.Proofs.YtefkbmhkhpekjaaMine
set_option linter.unusedVariables false
set_option linter.unusedSimpArgs false

theorem z44_1 {p : Prop} (h : p := by first | rfl | (simp [errW_none, errW_some] <;> rfl) | (simp [*, errW_none, errW_some] <;> rfl)) : p := h
theorem z44_2 {p : Prop} (h : p := by repeat (first | (with_reducible first | exact HB.out | apply below_alloc | apply pw_below_drewN | apply below_drew1) | exact HB.out)) : p := h
theorem z44_3 {p : Prop} (h : p := by repeat (first | (with_reducible first | exact HB.out | apply below_alloc | apply pw_below_drewN | apply below_drew1 | refine below_set ?_ GE887.out) | exact HB.out)) : p := h
/-! ### laws_szProg: function 44 -/
def laws_szProg.f (k : Nat) (l0_0 : List (List (S130))) (a1 : Int) : Option (Int) := (laws_szDoSS.f k l0_0 a1).bind fun t888 => (if t888 < 0 then (some (-1)) else (some t888))
theorem laws_szProg.mono : ∀ a0 a1 k, LeO (laws_szProg.f k a0 a1) (laws_szProg.f (k + 1) a0 a1) := by
  intro a0 a1 k
  unfold laws_szProg.f
  repeat' first
      | (with_reducible exact laws_szDoSS.mono _ _ _)
      | (with_reducible exact LeO.refl _)
      | (with_reducible exact LeO.none _)
      | (with_reducible refine LeO.ite ?_ ?_)
      | (with_reducible refine LeO.bind ?_ (fun _ => ?_))
      | exact laws_szDoSS.mono _ _ _
      | exact LeO.none _
      | refine LeO.ite ?_ ?_
      | refine LeO.bind ?_ (fun _ => ?_)
set_option maxHeartbeats 8000000 in
set_option maxRecDepth 100000 in
theorem laws_szProg.calls (k : Nat) (A0_0 : Option Addr) (c0_0 : Nat) (l0_0 : List (List (S130))) (a1 : Int) (r : Int) (w : World) (hr0_0 : Kd.C (Kd.slice 130 k130) w A0_0 l0_0.length l0_0) (hc0_0 : l0_0.length ≤ c0_0) (h : laws_szProg.f k l0_0 a1 = some r) :
  Calls Try.prog 44 #[.agg #[.slice A0_0 l0_0.length c0_0], .int .i64 a1] w fun e w' => e = .returned (.int .i64 r) ∧ Below w.heap.size w w' := by
 have hu52 := Try.underlying52
 have HR0_0 := am_ hr0_0
 have HC0_0 := am_ hc0_0
 clear hr0_0 hc0_0
 have HB := am_ (Below.refl w.heap.size w)
 have H : ((laws_szDoSS.f k l0_0 a1).bind fun t888 => (if t888 < 0 then (some (-1)) else (some t888))) = some r := h
 clear h
 replace H := Option.bind_eq_some_iff.mp H
 obtain ⟨t888, A30, H⟩ := H
 replace H : (if t888 < 0 then (some (-1)) else (some t888)) = some r := H
 have A3 := am_ A30
 clear A30
 by_cases c4 : t888 < 0
 ·rw [if_pos c4] at H
  have c4b0 : decide (t888 < 0) = true := decide_eq_true c4
  clear c4
  obtain rfl := Option.some.inj H
  go_enter Try.func44, Try.ntmps44
  go_wp2_with (first | ((with_reducible refine gate_dst (N := 2) rfl ?_); refine box_event ?hg (N := 2) ?hd (cs := #[.slice A0_0 l0_0.length c0_0]) (t := 52) ?hr ?_; (case hd => rfl); (case hg => rfl); (case hr => first | (go_simp; done) | (go_simp; rfl)); intro gb887 hg w5 hbox hb; have n0_ := am_ (below_step z44_2 hb); have n1_ := am_ (hbox); have n2_ := am_ (by rw [hg]; exact (below_size z44_2) : w.heap.size ≤ gb887); have n3_ := am_ (by rw [hg]; exact (below_size z44_2) : w.heap.size ≤ gb887); clear HB; have HB := n0_; have BK887 := n1_; have GW887 := n2_; have GE887 := n3_; clear n0_ n1_ n2_ n3_; clear hb hbox hg; have hcz6_0 : w5.cell? ⟨gb887, 0, none⟩ = some (.slice A0_0 l0_0.length c0_0) := (blk_cell BK887.out 0).trans rfl; have hfz6_0 := blk_frozen BK887.out 0) | ((with_reducible refine gate_callee (f := 94) rfl ?_); refine goesL_ (some 8) rfl rfl Try.func94 (by kernel_rfl) rfl #[.slice A0_0 l0_0.length c0_0, .int .i64 a1] rfl (by (try simp only [List.map_toArray, List.map_cons, List.map_nil]); first | done | rfl | (simp only [List.length_drop, List.length_take]; rfl)) ?_; (with_reducible refine (laws_szDoSS.calls k _ _ l0_0 a1 t888 _ ?side1 ?side2 A3.out).mono ?_); (case side1 => repeat (first | exact (Kd.C_below HR0_0.out HB.out) | (with_reducible refine Kd.C_alloc ?_ _) | (with_reducible refine Kd.C_drewN ?_ _) | (with_reducible refine Kd.C_drew ?_))); (case side2 => exact HC0_0.out); rintro e w' ⟨rfl, ⟨nd, rfl⟩⟩; refine ⟨_, rfl, ?_⟩))
  go_ret
  exact ⟨z44_1, z44_3⟩
 ·rw [if_neg c4] at H
  have c4b0 : decide (t888 < 0) = false := decide_eq_false c4
  clear c4
  obtain rfl := Option.some.inj H
  go_enter Try.func44, Try.ntmps44
  go_wp2_with (first | ((with_reducible refine gate_dst (N := 2) rfl ?_); refine box_event ?hg (N := 2) ?hd (cs := #[.slice A0_0 l0_0.length c0_0]) (t := 52) ?hr ?_; (case hd => rfl); (case hg => rfl); (case hr => first | (go_simp; done) | (go_simp; rfl)); intro gb887 hg w7 hbox hb; have n0_ := am_ (below_step z44_2 hb); have n1_ := am_ (hbox); have n2_ := am_ (by rw [hg]; exact (below_size z44_2) : w.heap.size ≤ gb887); have n3_ := am_ (by rw [hg]; exact (below_size z44_2) : w.heap.size ≤ gb887); clear HB; have HB := n0_; have BK887 := n1_; have GW887 := n2_; have GE887 := n3_; clear n0_ n1_ n2_ n3_; clear hb hbox hg; have hcz8_0 : w7.cell? ⟨gb887, 0, none⟩ = some (.slice A0_0 l0_0.length c0_0) := (blk_cell BK887.out 0).trans rfl; have hfz8_0 := blk_frozen BK887.out 0) | ((with_reducible refine gate_callee (f := 94) rfl ?_); refine goesL_ (some 8) rfl rfl Try.func94 (by kernel_rfl) rfl #[.slice A0_0 l0_0.length c0_0, .int .i64 a1] rfl (by (try simp only [List.map_toArray, List.map_cons, List.map_nil]); first | done | rfl | (simp only [List.length_drop, List.length_take]; rfl)) ?_; (with_reducible refine (laws_szDoSS.calls k _ _ l0_0 a1 t888 _ ?side1 ?side2 A3.out).mono ?_); (case side1 => repeat (first | exact (Kd.C_below HR0_0.out HB.out) | (with_reducible refine Kd.C_alloc ?_ _) | (with_reducible refine Kd.C_drewN ?_ _) | (with_reducible refine Kd.C_drew ?_))); (case side2 => exact HC0_0.out); rintro e w' ⟨rfl, ⟨nd, rfl⟩⟩; refine ⟨_, rfl, ?_⟩))
  go_ret
  exact ⟨z44_1, z44_3⟩

end Go.Proofs.Ytefkbmhkhpekjaa.PB

namespace Go.Proofs.Ytefkbmhkhpekjaa.PB
open Go.RowKit Go.Proofs.YtefkbmhkhpekjaaW.PrintWords Go.Proofs.YtefkbmhkhpekjaaW.PrintLast Go.Proofs.YtefkbmhkhpekjaaW.PrintMore
attribute [local go_sem] max2_int min2_int max_two min_two max_three min_three max_four min_four   -- for this text's walks alone
open Go.Proofs.YtefkbmhkhpekjaaMine
set_option linter.unusedVariables false
set_option linter.unusedSimpArgs false

theorem z137_1 {p : Prop} (h : p := by repeat (first | (with_reducible first | exact HB.out | apply below_alloc | apply pw_below_drewN | apply below_drew1) | exact HB.out)) : p := h
theorem z137_2 {p : Prop} (h : p := by repeat (first | (with_reducible first | exact HB.out | apply below_alloc | apply pw_below_drewN | apply below_drew1 | refine below_set ?_ GE889.out) | exact HB.out)) : p := h
theorem z137_3 {p : Prop} (h : p := by repeat (first | (with_reducible first | exact HB.out | apply below_alloc | apply pw_below_drewN | apply below_drew1 | refine below_set ?_ GE889.out | refine below_set ?_ GE890.out) | exact HB.out)) : p := h
/-! ### laws_toDo: function 137 -/
def laws_toDo.f (a0_0 : Int) (a0_1 : Int) (a0_2 : Int) : Option (Int × Int × Int) := some (a0_0, a0_1, a0_2)
set_option maxHeartbeats 8000000 in
set_option maxRecDepth 100000 in
theorem laws_toDo.calls (a0_0 : Int) (a0_1 : Int) (a0_2 : Int) (r1 : Int) (r2 : Int) (r3 : Int) (w : World) (h : laws_toDo.f a0_0 a0_1 a0_2 = some (r1, r2, r3)) :
  Calls Try.prog 137 #[.agg #[.int .i64 a0_0, .int .i64 a0_1, .int .i64 a0_2]] w fun e w' => e = .returned (.agg #[.int .i64 r1, .int .i64 r2, .int .i64 r3]) ∧ Below w.heap.size w w' := by
 have hu130 := Try.underlying130
 have hu85 := Try.underlying85
 have HB := am_ (Below.refl w.heap.size w)
 have H : (some (a0_0, a0_1, a0_2)) = some (r1, r2, r3) := h
 clear h
 simp only [Option.some.injEq, Prod.mk.injEq] at H
 obtain ⟨rfl, rfl, rfl⟩ := H
 go_enter Try.func137, Try.ntmps137
 go_wp2_with (first | ((with_reducible refine gate_dst (N := 1) rfl ?_); refine box_event ?hg (N := 1) ?hd (cs := #[.int .i64 a0_0, .int .i64 a0_1, .int .i64 a0_2]) (t := 130) ?hr ?_; (case hd => rfl); (case hg => rfl); (case hr => first | (go_simp; done) | (go_simp; rfl)); intro gb889 hg w2 hbox hb; have n0_ := am_ (below_step z137_1 hb); have n1_ := am_ (hbox); have n2_ := am_ (by rw [hg]; exact (below_size z137_1) : w.heap.size ≤ gb889); have n3_ := am_ (by rw [hg]; exact (below_size z137_1) : w.heap.size ≤ gb889); clear HB; have HB := n0_; have BK889 := n1_; have GW889 := n2_; have GE889 := n3_; clear n0_ n1_ n2_ n3_; clear hb hbox hg) | ((with_reducible refine gate_dst (N := 2) rfl ?_); refine box_event ?hg (N := 2) ?hd (cs := #[.int .i64 0, .int .i64 0, .int .i64 0]) (t := 85) ?hr ?_; (case hd => rfl); (case hg => rfl); (case hr => first | (go_simp; done) | (go_simp; rfl)); intro gb890 hg w3 hbox hb; have n0_ := am_ (blk_below (bu BK889.out) hb); have n1_ := am_ (below_step z137_2 hb); have n2_ := am_ (hbox); have n3_ := am_ (by rw [hg]; exact (below_size z137_2) : w.heap.size ≤ gb890); have n4_ := am_ (by rw [hg]; exact (below_size z137_2) : w.heap.size ≤ gb890); have n5_ := am_ (by rw [hg]; exact Nat.ne_of_lt (blk_lt (bu BK889.out)) : gb889 ≠ gb890); have n6_ := am_ (by rw [hg]; exact Nat.ne_of_gt (blk_lt (bu BK889.out)) : gb890 ≠ gb889); clear BK889 HB; have BK889 := n0_; have HB := n1_; have BK890 := n2_; have GW890 := n3_; have GE890 := n4_; have NB889_890 := n5_; have NB890_889 := n6_; clear n0_ n1_ n2_ n3_ n4_ n5_ n6_; clear hb hbox hg) | ((with_reducible refine gate_dst (N := 3) rfl ?_); refine box_event ?hg (N := 3) ?hd (cs := #[.int .i64 0, .int .i64 0, .int .i64 0]) (t := 85) ?hr ?_; (case hd => rfl); (case hg => rfl); (case hr => first | (go_simp; done) | (go_simp; rfl)); intro gb891 hg w4 hbox hb; have n0_ := am_ (blk_below (bu BK889.out) hb); have n1_ := am_ (blk_below (bu BK890.out) hb); have n2_ := am_ (below_step z137_3 hb); have n3_ := am_ (hbox); have n4_ := am_ (by rw [hg]; exact (below_size z137_3) : w.heap.size ≤ gb891); have n5_ := am_ (by rw [hg]; exact (below_size z137_3) : w.heap.size ≤ gb891); have n6_ := am_ (by rw [hg]; exact Nat.ne_of_lt (blk_lt (bu BK889.out)) : gb889 ≠ gb891); have n7_ := am_ (by rw [hg]; exact Nat.ne_of_gt (blk_lt (bu BK889.out)) : gb891 ≠ gb889); have n8_ := am_ (by rw [hg]; exact Nat.ne_of_lt (blk_lt (bu BK890.out)) : gb890 ≠ gb891); have n9_ := am_ (by rw [hg]; exact Nat.ne_of_gt (blk_lt (bu BK890.out)) : gb891 ≠ gb890); clear BK889 BK890 HB; have BK889 := n0_; have BK890 := n1_; have HB := n2_; have BK891 := n3_; have GW891 := n4_; have GE891 := n5_; have NB889_891 := n6_; have NB891_889 := n7_; have NB890_891 := n8_; have NB891_890 := n9_; clear n0_ n1_ n2_ n3_ n4_ n5_ n6_ n7_ n8_ n9_; clear hb hbox hg; have hnb5 := NB889_890.out; have hnc5 := NB890_889.out; have hnb6 := NB889_891.out; have hnc6 := NB891_889.out; have hcz7_0 : w4.cell? ⟨gb889, 0, none⟩ = some (.int .i64 a0_0) := (blk_cell BK889.out 0).trans rfl; have hcz7_1 : w4.cell? ⟨gb889, 1, none⟩ = some (.int .i64 a0_1) := (blk_cell BK889.out 1).trans rfl; have hcz7_2 : w4.cell? ⟨gb889, 2, none⟩ = some (.int .i64 a0_2) := (blk_cell BK889.out 2).trans rfl; have hfz7_0 := blk_frozen BK889.out 0; have hfz7_1 := blk_frozen BK889.out 1; have hfz7_2 := blk_frozen BK889.out 2; have hnb8 := NB891_890.out; have hnc8 := NB890_891.out; have hcz9_0 : w4.cell? ⟨gb891, 0, none⟩ = some (.int .i64 0) := (blk_cell BK891.out 0).trans rfl; have hcz9_1 : w4.cell? ⟨gb891, 1, none⟩ = some (.int .i64 0) := (blk_cell BK891.out 1).trans rfl; have hcz9_2 : w4.cell? ⟨gb891, 2, none⟩ = some (.int .i64 0) := (blk_cell BK891.out 2).trans rfl; have hfz9_0 := blk_frozen BK891.out 0; have hfz9_1 := blk_frozen BK891.out 1; have hfz9_2 := blk_frozen BK891.out 2; have hcz10_0 : w4.cell? ⟨gb890, 0, none⟩ = some (.int .i64 0) := (blk_cell BK890.out 0).trans rfl; have hcz10_1 : w4.cell? ⟨gb890, 1, none⟩ = some (.int .i64 0) := (blk_cell BK890.out 1).trans rfl; have hcz10_2 : w4.cell? ⟨gb890, 2, none⟩ = some (.int .i64 0) := (blk_cell BK890.out 2).trans rfl; have hfz10_0 := blk_frozen BK890.out 0; have hfz10_1 := blk_frozen BK890.out 1; have hfz10_2 := blk_frozen BK890.out 2))
 refine bodyPost_ret (results_cell_row rfl _ _ gb890 85 #[.int .i64 a0_0, .int .i64 a0_1, .int .i64 a0_2] (0, 0) _ rfl (by (with_reducible repeat (first | refine blk_drewN ?_ _ | refine blk_drew ?_ | refine blk_alloc ?_ _)); refine blk_put (cs := #[.int .i64 a0_0, .int .i64 a0_1, .int .i64 0]) ?_ 2 _ rfl; (with_reducible repeat (first | refine blk_drewN ?_ _ | refine blk_drew ?_ | refine blk_alloc ?_ _)); refine blk_put (cs := #[.int .i64 a0_0, .int .i64 0, .int .i64 0]) ?_ 1 _ rfl; (with_reducible repeat (first | refine blk_drewN ?_ _ | refine blk_drew ?_ | refine blk_alloc ?_ _)); refine blk_put (cs := #[.int .i64 0, .int .i64 0, .int .i64 0]) ?_ 0 _ rfl; (with_reducible repeat (first | refine blk_drewN ?_ _ | refine blk_drew ?_ | refine blk_alloc ?_ _)); refine blk_far ?_ NB890_891.out _; (with_reducible repeat (first | refine blk_drewN ?_ _ | refine blk_drew ?_ | refine blk_alloc ?_ _)); refine blk_far ?_ NB890_891.out _; (with_reducible repeat (first | refine blk_drewN ?_ _ | refine blk_drew ?_ | refine blk_alloc ?_ _)); refine blk_far ?_ NB890_891.out _; (with_reducible repeat (first | refine blk_drewN ?_ _ | refine blk_drew ?_ | refine blk_alloc ?_ _)); exact BK890.out) Try.underlying85 rfl (by kernel_rfl)) rfl ?_
 exact ⟨by first | rfl | (simp [errW_none, errW_some] <;> rfl) | (simp [*, errW_none, errW_some] <;> rfl), by repeat (first | (with_reducible first | exact HB.out | apply below_alloc | apply pw_below_drewN | apply below_drew1 | refine below_set ?_ GE889.out | refine below_set ?_ GE890.out | refine below_set ?_ GE891.out) | exact HB.out)⟩

end Go.Proofs.Ytefkbmhkhpekjaa.PB

namespace Go.Proofs.Ytefkbmhkhpekjaa.PB
open Go.RowKit Go.Proofs.YtefkbmhkhpekjaaW.PrintWords Go.Proofs.YtefkbmhkhpekjaaW.PrintLast Go.Proofs.YtefkbmhkhpekjaaW.PrintMore
attribute [local go_sem] max2_int min2_int max_two min_two max_three min_three max_four min_four   -- for this text's walks alone
open Go.Proofs.YtefkbmhkhpekjaaMine
set_option linter.unusedVariables false
set_option linter.unusedSimpArgs false

theorem z127_1 {p : Prop} (h : p := by first | (with_reducible assumption) | assumption) : p := h
theorem z127_2 {p : Prop} (h : p := by repeat (first | (with_reducible first | exact HB.out | apply below_alloc | apply pw_below_drewN | apply below_drew1) | exact HB.out)) : p := h
/-! ### laws_toDoS: function 127 -/
def laws_toDoS.l0 : Nat → List (S130) → List (S85) → Int → Option ((List (S85)))
  | 0, _, _, _ => none
  | k + 1, x0, x3, x4 => if x4 < (x0.length : Int) then (if 0 ≤ x4 then ((laws_toDo.f ((rd_T130 x0 x4).f0) ((rd_T130 x0 x4).f1) ((rd_T130 x0 x4).f2)).bind fun bt896 => (if x4 < (x3.length : Int) then (laws_toDoS.l0 k x0 (x3.set (x4 : Int).toNat (⟨bt896.1, bt896.2.1, bt896.2.2⟩ : S85)) (wrap64 (x4 + 1))) else (none))) else (none)) else (some x3)
def laws_toDoS.f (k : Nat) (l0 : List (S130)) : Option ((List (S85))) := if 0 ≤ (l0.length : Int) then (if ((l0.length : Int) : Int).toNat ≤ 11728124029610 then (laws_toDoS.l0 k l0 (List.replicate ((l0.length : Int) : Int).toNat z85) 0) else (none)) else (none)
theorem laws_toDoS.mono_l : ∀ k, (∀ y0 y1 y2, LeO (laws_toDoS.l0 k y0 y1 y2) (laws_toDoS.l0 (k + 1) y0 y1 y2))
  | 0 => fun _ _ _ r h => by simp [laws_toDoS.l0] at h
  | k + 1 => by
    have ih0 := laws_toDoS.mono_l k
    · intro y0 y1 y2
      unfold laws_toDoS.l0
      repeat' first
      | (with_reducible exact ih0 _ _ _)
      | (with_reducible exact LeO.refl _)
      | (with_reducible exact LeO.none _)
      | (with_reducible refine LeO.ite ?_ ?_)
      | (with_reducible refine LeO.bind ?_ (fun _ => ?_))
      | exact ih0 _ _ _
      | exact LeO.none _
      | refine LeO.ite ?_ ?_
      | refine LeO.bind ?_ (fun _ => ?_)
theorem laws_toDoS.mono : ∀ a0 k, LeO (laws_toDoS.f k a0) (laws_toDoS.f (k + 1) a0) := by
  intro a0 k
  have ih0 := laws_toDoS.mono_l k
  unfold laws_toDoS.f
  repeat' first
      | (with_reducible exact ih0 _ _ _)
      | (with_reducible exact LeO.refl _)
      | (with_reducible exact LeO.none _)
      | (with_reducible refine LeO.ite ?_ ?_)
      | (with_reducible refine LeO.bind ?_ (fun _ => ?_))
      | exact ih0 _ _ _
      | exact LeO.none _
      | refine LeO.ite ?_ ?_
      | refine LeO.bind ?_ (fun _ => ?_)
set_option maxHeartbeats 8000000 in
set_option maxRecDepth 100000 in
theorem laws_toDoS.calls (k : Nat) (A0 : Option Addr) (c0 : Nat) (l0 : List (S130)) (r : List (S85)) (w : World) (hr0 : Kd.C k130 w A0 l0.length l0) (hc0 : l0.length ≤ c0) (h : laws_toDoS.f k l0 = some r) :
  Calls Try.prog 127 #[.slice A0 l0.length c0] w fun e w' => ∃ v0_ : Value, e = .returned (v0_) ∧ Kd.R k85 85 w' w.heap.size (fun _ => True) v0_ r ∧ Below w.heap.size w w' := by
 have hu130 := Try.underlying130
 have hu85 := Try.underlying85
 have HR0 := am_ hr0
 have HC0 := am_ hc0
 clear hr0 hc0
 have HB := am_ (Below.refl w.heap.size w)
 have H : (if 0 ≤ (l0.length : Int) then (if ((l0.length : Int) : Int).toNat ≤ 11728124029610 then (laws_toDoS.l0 k l0 (List.replicate ((l0.length : Int) : Int).toNat z85) 0) else (none)) else (none)) = some r := h
 clear h
 by_cases c2 : 0 ≤ (l0.length : Int)
 ·rw [if_pos c2] at H
  have c2b0 := eq_true c2
  have c2b1 : decide (0 ≤ (l0.length : Int)) = true := decide_eq_true c2
  clear c2
  by_cases c3 : ((l0.length : Int) : Int).toNat ≤ 11728124029610
  ·rw [if_pos c3] at H
   have c3b0 := eq_true c3
   have c3b1 : decide (((l0.length : Int) : Int).toNat ≤ 11728124029610) = true := decide_eq_true c3
   clear c3
   obtain ⟨y892, hy892⟩ : ∃ y_ : List (S85), y_ = (List.replicate ((l0.length : Int) : Int).toNat z85) := ⟨_, rfl⟩
   replace H : (laws_toDoS.l0 k l0 y892 0) = some r := by first | (rw [hy892]; with_reducible exact H) | (have H2_ := (Option.bind_some _ _).symm.trans H; rw [hy892]; with_reducible exact H2_) | (have H2_ := (Option.bind_some _ _).symm.trans H; with_reducible exact H2_) | with_reducible exact H | (rw [hy892]; exact H) | exact H
   have Ny892 := am_ hy892
   clear hy892
   have H' := am_ H
   clear H
   go_enter Try.func127, Try.ntmps127
   go_wp2_with (first | ((with_reducible refine gate_dst (N := 7) rfl ?_); refine Kd.R_make k85 _ 85 rfl (N := 7) rfl 82 _ _ rfl (l0.length : Int) rfl rfl Try.underlying82 (.agg #[(.int .i64 0), (.int .i64 0), (.int .i64 0)]) 24 info85 rfl (by decide) (by omega) z85 (ok := fun _ => True) (okp := fun _ => True) (k85_mkM _ _ _ z85 ) (fun _ hk => hk) trivial (of_decide_eq_true z127_1) (Nat.le_trans (Nat.mul_le_mul_right _ (of_decide_eq_true z127_1 : (l0.length : Int).toNat ≤ 11728124029610)) (by omega)) (Below.refl _ _) (Nat.le_refl _) ?_; intro v893 w4 ho5 hb hg_ hnew_; clear hg_ hnew_; (first | rw [← Ny892.out] at ho5 | (simp only [Int.reduceToNat] at ho5; rw [← Ny892.out] at ho5)); have n0_ := am_ (Kd.R_lower ho5 (below_size z127_2)); have n1_ := am_ (below_step z127_2 hb); clear HB; have HO894 := n0_; have HB := n1_; clear n0_ n1_; clear hb ho5))
   go_loopg [4] k (fun kq v4 w' => ∃ (x3_1 : List (S85)) (x4_1 : Int), v4 = .int .i64 x4_1 ∧ Aside0 (laws_toDoS.l0 kq l0 x3_1 x4_1 = some r) ∧ Aside0 (kq ≤ k) ∧ Aside0 (Kd.R k85 85 w' w.heap.size (fun _ => True) v893 x3_1) ∧ Aside0 (Below w.heap.size w w'))
   case atStart => exact ⟨(y892), (0), (by first | rfl | (simp; done) | (simp [*]; done)), H', ⟨Nat.le_refl _⟩, ⟨ru HO894.out⟩, ⟨z127_2⟩⟩
   case round =>
    clear H'
    obtain ⟨x3_1, x4_1, rfl, HA, HK1, HO_3, HB⟩ := hrel
    cases gk with
    | zero => exact absurd HA.out (by simp [laws_toDoS.l0])
    | succ k1 =>
     have H := HA.out
     clear HA
     simp only [laws_toDoS.l0] at H
     by_cases c6 : x4_1 < (l0.length : Int)
     ·rw [if_pos c6] at H
      have c6b0 : decide (x4_1 < (l0.length : Int)) = true := decide_eq_true c6
      clear c6
      by_cases c7 : 0 ≤ x4_1
      ·rw [if_pos c7] at H
       have c7b0 : decide (0 ≤ x4_1) = true := decide_eq_true c7
       clear c7
       replace H := Option.bind_eq_some_iff.mp H
       obtain ⟨⟨t896, t897, t898⟩, A80, H⟩ := H
       replace H : (if x4_1 < (x3_1.length : Int) then (laws_toDoS.l0 k1 l0 (x3_1.set (x4_1 : Int).toNat (⟨t896, t897, t898⟩ : S85)) (wrap64 (x4_1 + 1))) else (none)) = some r := H
       have A8 := am_ A80
       clear A80
       by_cases c9 : x4_1 < (x3_1.length : Int)
       ·rw [if_pos c9] at H
        have c9b0 : decide (x4_1 < (x3_1.length : Int)) = true := decide_eq_true c9
        clear c9
        obtain ⟨y899, hy899⟩ : ∃ y_ : List (S85), y_ = (x3_1.set (x4_1 : Int).toNat (⟨t896, t897, t898⟩ : S85)) := ⟨_, rfl⟩
        replace H : (laws_toDoS.l0 k1 l0 y899 (wrap64 (x4_1 + 1))) = some r := by first | (rw [hy899]; with_reducible exact H) | (have H2_ := (Option.bind_some _ _).symm.trans H; rw [hy899]; with_reducible exact H2_) | (have H2_ := (Option.bind_some _ _).symm.trans H; with_reducible exact H2_) | with_reducible exact H | (rw [hy899]; exact H) | exact H
        have Ny899 := am_ hy899
        clear hy899
        have H' := am_ H
        clear H
        have p895 : 0 ≤ (x4_1 : Int) := of_decide_eq_true z127_1
        have q895 : x4_1 < (l0.length : Int) := of_decide_eq_true z127_1
        obtain ⟨ad895, e895, hx895_0, hx895_1, hx895_2⟩ := at_T130 HR0.out x4_1 p895 q895
        cases e895
        replace hx895_0 := (HB.out.cell (World.block_lt_of_cell? w _ hx895_0)).trans hx895_0
        replace hx895_1 := (HB.out.cell (World.block_lt_of_cell? w _ hx895_1)).trans hx895_1
        replace hx895_2 := (HB.out.cell (World.block_lt_of_cell? w _ hx895_2)).trans hx895_2
        replace p895 := eq_true p895
        replace q895 := eq_true q895
        go_wp2_with (first | ((with_reducible refine gate_callee (f := 137) rfl ?_); refine goesL_ (some 20) rfl rfl Try.func137 (by kernel_rfl) rfl #[.agg #[.int .i64 ((rd_T130 l0 x4_1).f0), .int .i64 ((rd_T130 l0 x4_1).f1), .int .i64 ((rd_T130 l0 x4_1).f2)]] rfl (by (try simp only [List.map_toArray, List.map_cons, List.map_nil]); first | done | rfl | (simp only [List.length_drop, List.length_take]; rfl)) ?_; (with_reducible refine (laws_toDo.calls ((rd_T130 l0 x4_1).f0) ((rd_T130 l0 x4_1).f1) ((rd_T130 l0 x4_1).f2) t896 t897 t898 _ A8.out).mono ?_); rintro e w11 ⟨rfl, hb⟩; refine ⟨_, rfl, ?_⟩; have n0_ := am_ (Kd.R_below (ru HO_3.out) hb); have n1_ := am_ (below_step z127_2 hb); clear HO_3 HB; have HO_3 := n0_; have HB := n1_; clear n0_ n1_; (try clear hb); (try clear hb2); (try clear hk); (try clear hi); have p10 : 0 ≤ (x4_1 : Int) := of_decide_eq_true z127_1; have q10 : (x4_1 : Int) < ((x3_1.length : Int) : Int) := of_decide_eq_true z127_1; obtain ⟨go10, co10, eo10, gb10, gl10, cl10, HG10⟩ := Kd.R_form HO_3.out (by omega); (first | cases eo10 | (injection eo10 with ea_ en_ ec_; (first | subst ea_ | (injection ea_ with ea_; subst ea_)); subst ec_; clear en_)); have GB10 := am_ gb10; have GG10 := am_ HG10; clear gb10 gl10 HG10; obtain ⟨ce10, hcl10, hM10, hcc10, hfr10⟩ := Kd.R_elem HO_3.out z85 (x4_1 : Int) p10 q10; obtain rfl := k85_openM hM10; have hx10_0 : w11.cell? ⟨go10, (x4_1 : Int).toNat * 3, none⟩ = some (.int .i64 ((rd_T85 x3_1 x4_1).f0)) := hcc10 0 _ rfl; have hx10_1 : w11.cell? ⟨go10, (x4_1 : Int).toNat * 3 + 1, none⟩ = some (.int .i64 ((rd_T85 x3_1 x4_1).f1)) := hcc10 1 _ rfl; have hx10_2 : w11.cell? ⟨go10, (x4_1 : Int).toNat * 3 + 2, none⟩ = some (.int .i64 ((rd_T85 x3_1 x4_1).f2)) := hcc10 2 _ rfl; have hf10_0 : w11.frozen? ⟨go10, (x4_1 : Int).toNat * 3, none⟩ = false := hfr10 0; have hf10_1 : w11.frozen? ⟨go10, (x4_1 : Int).toNat * 3 + 1, none⟩ = false := hfr10 1; have hf10_2 : w11.frozen? ⟨go10, (x4_1 : Int).toNat * 3 + 2, none⟩ = false := hfr10 2; clear hcl10 hcc10 hfr10 hM10; replace p10 := eq_true p10; replace q10 := eq_true q10; have HX12 := am_ (show Kd.R k85 85 w11 w.heap.size (fun _ => True) (.slice (some ⟨go10, 0, none⟩) x3_1.length co10) x3_1 from (ru HO_3.out)); obtain ⟨ce12, hcl12, hM12, hcc12, hfr12⟩ := Kd.R_elem HX12.out z85 (x4_1 : Int) (of_decide_eq_true z127_1) (by have h_ : (x4_1 : Int) < ((x3_1.length : Int) : Int) := of_decide_eq_true z127_1; first | exact h_ | (have e_ := (Kd.R_reads' HO_3.out).1; omega) | simpa using h_); obtain rfl := k85_openM hM12; have HP12 := Kd.R_seg HX12.out (x4_1 : Int) (of_decide_eq_true z127_1) (by have h_ : (x4_1 : Int) < ((x3_1.length : Int) : Int) := of_decide_eq_true z127_1; first | exact h_ | (have e_ := (Kd.R_reads' HO_3.out).1; omega) | simpa using h_) (seg := [.int .i64 t896, .int .i64 t897, .int .i64 t898]) (j := 0) hcl12 hcc12 (show 3 ≤ 3 from by decide) (x' := (⟨t896, t897, t898⟩ : S85)) (k85_mkM _ _ _ (⟨t896, t897, t898⟩ : S85) ) (fun _ hk => hk); have hx12_0 := hcc12 0 _ rfl; (try simp only [show (k85).sz = 3 from rfl, Nat.mul_one, Nat.add_zero] at hx12_0); have hf12_0 := hfr12 0; (try simp only [show (k85).sz = 3 from rfl, Nat.mul_one, Nat.add_zero] at hf12_0); have hx12_1 := hcc12 1 _ rfl; (try simp only [show (k85).sz = 3 from rfl, Nat.mul_one, Nat.add_zero] at hx12_1); have hf12_1 := hfr12 1; (try simp only [show (k85).sz = 3 from rfl, Nat.mul_one, Nat.add_zero] at hf12_1); have hx12_2 := hcc12 2 _ rfl; (try simp only [show (k85).sz = 3 from rfl, Nat.mul_one, Nat.add_zero] at hx12_2); have hf12_2 := hfr12 2; (try simp only [show (k85).sz = 3 from rfl, Nat.mul_one, Nat.add_zero] at hf12_2); clear hcl12 hcc12 hfr12 hM12) | ((with_reducible refine gate_store (t := 85) (p := 21) rfl ?_); refine store_event (t := 85) (p := 21) (v := ?vo_w13) (w1 := (((w11.setCell ⟨go10, (x4_1 : Int).toNat * 3, none⟩ (.int .i64 t896)).setCell ⟨go10, (x4_1 : Int).toNat * 3 + 1, none⟩ (.int .i64 t897)).setCell ⟨go10, (x4_1 : Int).toNat * 3 + 2, none⟩ (.int .i64 t898))) ?hg ?ho ?hn ?hr ?_; (case ho => rfl); (case hg => rfl); (case hn => rfl); (case hr => first | (go_simp; done) | (go_simp; rfl)); intro w13 hw; have hg : w11.grownBy w13 (some go10) := (by rw [hw]; exact HP12.2); have hp_ : Kd.R k85 85 w13 w.heap.size (fun _ => True) (.slice (some ⟨go10, 0, none⟩) x3_1.length co10) y899 := (by rw [hw, Ny899.out]; exact HP12.1); clear HP12; have n0_ := am_ (hp_); have n1_ := am_ (by rw [hw]; exact below_set (below_set (below_set (HB.out) GB10.out) GB10.out) GB10.out : Below w.heap.size w w13); clear HO_3 HB; have HO_3 := n0_; have HB := n1_; clear n0_ n1_; clear hg hw hp_))
        go_roundg k1
        case measure => have := HK1.out; omega
        case rel => exact ⟨(y899), (wrap64 (x4_1 + 1)), (by first | rfl | (simp; done) | (simp [*]; done)), H', ⟨by have := HK1.out; omega⟩, ⟨ru HO_3.out⟩, ⟨z127_2⟩⟩
       ·rw [if_neg c9] at H
        exact absurd H (by simp)
      ·rw [if_neg c7] at H
       exact absurd H (by simp)
     ·rw [if_neg c6] at H
      have c6b0 : decide (x4_1 < (l0.length : Int)) = false := decide_eq_false c6
      clear c6
      obtain rfl := Option.some.inj H
      go_wp2
      go_ret
      exact ⟨_, by first | rfl | (simp [errW_none, errW_some] <;> rfl) | (simp [*, errW_none, errW_some] <;> rfl), ru HO_3.out, z127_2⟩
  ·rw [if_neg c3] at H
   exact absurd H (by simp)
 ·rw [if_neg c2] at H
  exact absurd H (by simp)

end Go.Proofs.Ytefkbmhkhpekjaa.PB

namespace Go.Proofs.Ytefkbmhkhpekjaa.PB
open Go.RowKit Go.Proofs.YtefkbmhkhpekjaaW.PrintWords Go.Proofs.YtefkbmhkhpekjaaW.PrintLast Go.Proofs.YtefkbmhkhpekjaaW.PrintMore
attribute [local go_sem] max2_int min2_int max_two min_two max_three min_three max_four min_four   -- for this text's walks alone
open Go.Proofs.YtefkbmhkhpekjaaMine
set_option linter.unusedVariables false
set_option linter.unusedSimpArgs false

/-! ### laws_toDoSS: function 95 -/
theorem zq95_1 {p : Prop} (h : p := by first | (with_reducible assumption) | assumption) : p := h
theorem zq95_2 {p : Prop} (h : p := by repeat (first | (with_reducible first | exact HB.out | apply below_alloc | apply pw_below_drewN | apply below_drew1) | exact HB.out)) : p := h
def laws_toDoSS.l0 : Nat → List (List (S130)) → List (List (S85)) → Int → Option ((List (List (S85))))
  | 0, _, _, _ => none
  | k + 1, x0, x3, x4 => if x4 < (x0.length : Int) then (if 0 ≤ x4 then ((laws_toDoS.f k (rd_L13 x0 x4)).bind fun t917 => (if x4 < (x3.length : Int) then (laws_toDoSS.l0 k x0 (x3.set (x4 : Int).toNat t917) (wrap64 (x4 + 1))) else (none))) else (none)) else (some x3)
def laws_toDoSS.f (k : Nat) (l0 : List (List (S130))) : Option ((List (List (S85)))) := if 0 ≤ (l0.length : Int) then (if ((l0.length : Int) : Int).toNat ≤ 11728124029610 then (laws_toDoSS.l0 k l0 (List.replicate ((l0.length : Int) : Int).toNat []) 0) else (none)) else (none)
theorem laws_toDoSS.mono_l : ∀ k, (∀ y0 y1 y2, LeO (laws_toDoSS.l0 k y0 y1 y2) (laws_toDoSS.l0 (k + 1) y0 y1 y2))
  | 0 => fun _ _ _ r h => by simp [laws_toDoSS.l0] at h
  | k + 1 => by
    have ih0 := laws_toDoSS.mono_l k
    · intro y0 y1 y2
      unfold laws_toDoSS.l0
      repeat' first
      | (with_reducible exact ih0 _ _ _)
      | (with_reducible exact laws_toDoS.mono _ _)
      | (with_reducible exact LeO.refl _)
      | (with_reducible exact LeO.none _)
      | (with_reducible refine LeO.ite ?_ ?_)
      | (with_reducible refine LeO.bind ?_ (fun _ => ?_))
      | exact ih0 _ _ _
      | exact laws_toDoS.mono _ _
      | exact LeO.none _
      | refine LeO.ite ?_ ?_
      | refine LeO.bind ?_ (fun _ => ?_)
theorem laws_toDoSS.mono : ∀ a0 k, LeO (laws_toDoSS.f k a0) (laws_toDoSS.f (k + 1) a0) := by
  intro a0 k
  have ih0 := laws_toDoSS.mono_l k
  unfold laws_toDoSS.f
  repeat' first
      | (with_reducible exact ih0 _ _ _)
      | (with_reducible exact laws_toDoS.mono _ _)
      | (with_reducible exact LeO.refl _)
      | (with_reducible exact LeO.none _)
      | (with_reducible refine LeO.ite ?_ ?_)
      | (with_reducible refine LeO.bind ?_ (fun _ => ?_))
      | exact ih0 _ _ _
      | exact laws_toDoS.mono _ _
      | exact LeO.none _
      | refine LeO.ite ?_ ?_
      | refine LeO.bind ?_ (fun _ => ?_)
set_option maxHeartbeats 8000000 in
set_option maxRecDepth 100000 in
theorem laws_toDoSS.calls (k : Nat) (A0 : Option Addr) (c0 : Nat) (l0 : List (List (S130))) (r : List (List (S85))) (w : World) (hr0 : Kd.C (Kd.slice 130 k130) w A0 l0.length l0) (hc0 : l0.length ≤ c0) (h : laws_toDoSS.f k l0 = some r) :
  Calls Try.prog 95 #[.slice A0 l0.length c0] w fun e w' => ∃ v0_ : Value, e = .returned (v0_) ∧ Kd.S (Kd.slice 85 k85) 82 w' w.heap.size (fun _ => True) v0_ r ∧ Below w.heap.size w w' := by
 have HR0 := am_ hr0
 have HC0 := am_ hc0
 clear hr0 hc0
 have HB := am_ (Below.refl w.heap.size w)
 have H : (if 0 ≤ (l0.length : Int) then (if ((l0.length : Int) : Int).toNat ≤ 11728124029610 then (laws_toDoSS.l0 k l0 (List.replicate ((l0.length : Int) : Int).toNat []) 0) else (none)) else (none)) = some r := h
 clear h
 by_cases c2 : 0 ≤ (l0.length : Int)
 ·rw [if_pos c2] at H
  have c2b0 := eq_true c2
  have c2b1 : decide (0 ≤ (l0.length : Int)) = true := decide_eq_true c2
  clear c2
  by_cases c3 : ((l0.length : Int) : Int).toNat ≤ 11728124029610
  ·rw [if_pos c3] at H
   have c3b0 := eq_true c3
   have c3b1 : decide (((l0.length : Int) : Int).toNat ≤ 11728124029610) = true := decide_eq_true c3
   clear c3
   obtain ⟨y913, hy913⟩ : ∃ y_ : List (List (S85)), y_ = (List.replicate ((l0.length : Int) : Int).toNat []) := ⟨_, rfl⟩
   replace H : (laws_toDoSS.l0 k l0 y913 0) = some r := by first | (rw [hy913]; with_reducible exact H) | (have H2_ := (Option.bind_some _ _).symm.trans H; rw [hy913]; with_reducible exact H2_) | (have H2_ := (Option.bind_some _ _).symm.trans H; with_reducible exact H2_) | with_reducible exact H | (rw [hy913]; exact H) | exact H
   have Ny913 := am_ hy913
   clear hy913
   have H' := am_ H
   clear H
   go_enter Try.func95, Try.ntmps95
   go_wp2_with (first | ((with_reducible refine gate_dst (N := 7) rfl ?_); refine Kd.S_make (Kd.slice 85 k85) _ 82 rfl (N := 7) rfl 33 _ _ rfl (l0.length : Int) rfl rfl Try.underlying33 (.slice none 0 0) 24 info82 rfl (by decide) (by omega) [] (ok := fun _ => True) (okp := fun _ => True) ⟨_, rfl, Kd.R_nil _ _ _ _ _⟩ (fun _ hk => hk) trivial (of_decide_eq_true zq95_1) (Nat.le_trans (Nat.mul_le_mul_right _ (of_decide_eq_true zq95_1 : (l0.length : Int).toNat ≤ 11728124029610)) (by omega)) (Below.refl _ _) (Nat.le_refl _) ?_; intro v914 w4 ho5 hb hg_ hnew_; clear hg_ hnew_; (first | rw [← Ny913.out] at ho5 | (simp only [Int.reduceToNat] at ho5; rw [← Ny913.out] at ho5)); have n0_ := am_ (Kd.S_lower ho5 (below_size zq95_2)); have n1_ := am_ (below_step zq95_2 hb); clear HB; have HO915 := n0_; have HB := n1_; clear n0_ n1_; clear hb ho5))
   go_loopg [4] k (fun kq v4 w' => ∃ (x3_1 : List (List (S85))) (x4_1 : Int), v4 = .int .i64 x4_1 ∧ Aside0 (laws_toDoSS.l0 kq l0 x3_1 x4_1 = some r) ∧ Aside0 (kq ≤ k) ∧ Aside0 (Kd.S (Kd.slice 85 k85) 82 w' w.heap.size (fun _ => True) v914 x3_1) ∧ Aside0 (Below w.heap.size w w'))
   case atStart => exact ⟨(y913), (0), (by first | rfl | (simp; done) | (simp [*]; done)), H', ⟨Nat.le_refl _⟩, ⟨su HO915.out⟩, ⟨zq95_2⟩⟩
   case round =>
    clear H' HO915 HB
    obtain ⟨x3_1, x4_1, rfl, HA, HK1, HO_3, HB⟩ := hrel
    cases gk with
    | zero => exact absurd HA.out (by simp [laws_toDoSS.l0])
    | succ k1 =>
     have H := HA.out
     clear HA
     simp only [laws_toDoSS.l0] at H
     by_cases c6 : x4_1 < (l0.length : Int)
     · rw [if_pos c6] at H
       by_cases c7 : 0 ≤ x4_1
       rotate_left
       · rw [if_neg c7] at H; cases H
       rw [if_pos c7] at H
       obtain ⟨t, A80, H⟩ := Option.bind_eq_some_iff.mp H
       by_cases c9 : x4_1 < (x3_1.length : Int)
       rotate_left
       · rw [if_neg c9] at H; cases H
       rw [if_pos c9] at H
       have A8 := am_ A80
       have HN := am_ H
       have b6 := decide_eq_true c6
       have b9 := decide_eq_true c9
       clear A80 H
       obtain ⟨go, cap, eV, hgo0, hgol, cells, hcells⟩ := Kd.S_form HO_3.out (by omega)
       subst eV
       obtain ⟨ad, Ai, ci, rfl, hx, hl, hi⟩ := at_L13 (Kd.C_below HR0.out HB.out) x4_1 c7 c6
       have HI := am_ hi
       have LI := am_ hl
       have GL := am_ hgol
       have BG := am_ hcells
       clear hi hl hgol hcells
       go_wp2_with (go_at_call 127; refine park ?_)
       clear hx
       refine ⟨?_⟩
       refine (laws_toDoS.calls k1 _ _ (rd_L13 l0 x4_1) t _ HI.out LI.out A8.out).mono ?_
       rintro e w2 ⟨v, rfl, hR, hb⟩
       obtain ⟨Av, cv, rfl⟩ := Kd.R_slice hR
       have hS2 := Kd.S_mono (ok' := fun k => True ∧ ¬ wr.heap.size ≤ k) (Kd.S_below (Kd.S_bound HO_3.out) hb) (fun k hk => ⟨trivial, by have := hk.2.2.1; omega⟩)
       obtain ⟨oki, cs, hlen, hM, hcc, hoki, hH⟩ := Kd.S_lend hS2 [] x4_1 c7 c9
       obtain ⟨u, rfl, hRu⟩ := (show (Kd.slice 85 k85).M w2 w.heap.size oki (x3_1.getD x4_1.toNat []) cs from hM)
       have hcu : w2.cell? ⟨go, x4_1.toNat, none⟩ = some u := by
         have h1 := hcc 0 _ rfl
         rwa [show x4_1.toNat * (Kd.slice 85 k85).sz + 0 = x4_1.toNat from by show x4_1.toNat * 1 + 0 = _; omega] at h1
       have hfu := blk_frozen (blk_below BG.out hb) x4_1.toNat
       obtain ⟨hSn, hgr⟩ := Kd.S_seg (okg := fun k => wr.heap.size ≤ k) hH c7 c9 (seg := [Value.slice Av t.length cv]) (j := 0) (x' := t) (okp := fun k => wr.heap.size ≤ k) (Nat.le_refl 1) (Kd.M_row (Kd.R_lower (Kd.R_mono (Kd.R_bound hR) (fun k hk => hk.2.1)) HB.out.size)) (fun k hk => .inr hk) (fun k hk => ⟨trivial, by have := GL.out; omega⟩)
       have HSn := am_ (show Kd.S (Kd.slice 85 k85) 82 (w2.setCell ⟨go, x4_1.toNat, none⟩ (.slice Av t.length cv)) w.heap.size (fun _ => True) (.slice (some ⟨go, 0, none⟩) x3_1.length cap) (x3_1.set x4_1.toNat t) from by
         have h := hSn
         rw [show x4_1.toNat * (Kd.slice 85 k85).sz + 0 = x4_1.toNat from by show x4_1.toNat * 1 + 0 = _; omega] at h
         exact h)
       have HB2 := am_ (below_then HB.out HB.out.size hb)
       have GO := am_ hgo0
       clear hSn hgr hS2 hlen hM hcc hoki hH hRu hR hb HO_3 BG GL hgo0
       go_wp2_with fail
       clear hcu hfu
       have hgo := GO.out
       go_roundg k1
       case measure => have := HK1.out; omega
       case rel => exact ⟨_, _, rfl, HN, ⟨by have := HK1.out; omega⟩, HSn, ⟨below_set HB2.out hgo⟩⟩
     · rw [if_neg c6] at H
       have c6b0 : decide (x4_1 < (l0.length : Int)) = false := decide_eq_false c6
       clear c6
       obtain rfl := Option.some.inj H
       go_wp2
       go_ret
       exact ⟨_, rfl, HO_3.out, HB.out⟩
  ·rw [if_neg c3] at H
   exact absurd H (by simp)
 ·rw [if_neg c2] at H
  exact absurd H (by simp)



end Go.Proofs.Ytefkbmhkhpekjaa.PB

namespace Go.Proofs.Ytefkbmhkhpekjaa.PB
open Go.RowKit Go.Proofs.YtefkbmhkhpekjaaW.PrintWords Go.Proofs.YtefkbmhkhpekjaaW.PrintLast Go.Proofs.YtefkbmhkhpekjaaW.PrintMore
attribute [local go_sem] max2_int min2_int max_two min_two max_three min_three max_four min_four   -- for this text's walks alone
open Go.Proofs.YtefkbmhkhpekjaaMine
set_option linter.unusedVariables false
set_option linter.unusedSimpArgs false

theorem z45_1 {p : Prop} (h : p := by repeat (first | (with_reducible first | exact HB.out | apply below_alloc | apply pw_below_drewN | apply below_drew1) | exact HB.out)) : p := h
theorem z45_2 {p : Prop} (h : p := by repeat (first | (with_reducible first | exact HB.out | apply below_alloc | apply pw_below_drewN | apply below_drew1 | refine below_set ?_ GE908.out) | exact HB.out)) : p := h
theorem z45_3 {p : Prop} (h : p := by repeat (first | (with_reducible first | exact HB.out | apply below_alloc | apply pw_below_drewN | apply below_drew1 | refine below_set ?_ GE908.out | refine below_set ?_ GE909.out) | exact HB.out)) : p := h
theorem z45_4 {p : Prop} (h : p := by repeat (first | (with_reducible first | exact HB.out | apply below_alloc | apply pw_below_drewN | apply below_drew1 | refine below_set ?_ GE908.out | refine below_set ?_ GE909.out | refine below_set ?_ GE910.out) | exact HB.out)) : p := h
/-! ### laws_toProg: function 45 -/
def laws_toProg.f (k : Nat) (l0_0 : List (List (S130))) : Option ((List (List (S85)))) := (laws_toDoSS.f k l0_0).bind fun t911 => (some t911)
theorem laws_toProg.mono : ∀ a0 k, LeO (laws_toProg.f k a0) (laws_toProg.f (k + 1) a0) := by
  intro a0 k
  unfold laws_toProg.f
  repeat' first
      | (with_reducible exact laws_toDoSS.mono _ _)
      | (with_reducible exact LeO.refl _)
      | (with_reducible exact LeO.none _)
      | (with_reducible refine LeO.ite ?_ ?_)
      | (with_reducible refine LeO.bind ?_ (fun _ => ?_))
      | exact laws_toDoSS.mono _ _
      | exact LeO.none _
      | refine LeO.ite ?_ ?_
      | refine LeO.bind ?_ (fun _ => ?_)
set_option maxHeartbeats 8000000 in
set_option maxRecDepth 100000 in
theorem laws_toProg.calls (k : Nat) (A0_0 : Option Addr) (c0_0 : Nat) (l0_0 : List (List (S130))) (r : List (List (S85))) (w : World) (hr0_0 : Kd.C (Kd.slice 130 k130) w A0_0 l0_0.length l0_0) (hc0_0 : l0_0.length ≤ c0_0) (h : laws_toProg.f k l0_0 = some r) :
  Calls Try.prog 45 #[.agg #[.slice A0_0 l0_0.length c0_0]] w fun e w' => ∃ v0_ : Value, e = .returned (.agg #[v0_]) ∧ Kd.S (Kd.slice 85 k85) 82 w' w.heap.size (fun _ => True) v0_ r ∧ Below w.heap.size w w' := by
 have hu52 := Try.underlying52
 have hu35 := Try.underlying35
 have HR0_0 := am_ hr0_0
 have HC0_0 := am_ hc0_0
 clear hr0_0 hc0_0
 have HB := am_ (Below.refl w.heap.size w)
 have H : ((laws_toDoSS.f k l0_0).bind fun t911 => (some t911)) = some r := h
 clear h
 replace H := Option.bind_eq_some_iff.mp H
 obtain ⟨t911, A20, H⟩ := H
 replace H : (some t911) = some r := H
 have A2 := am_ A20
 clear A20
 obtain rfl := Option.some.inj H
 go_enter Try.func45, Try.ntmps45
 go_wp2_with (first | ((with_reducible refine gate_dst (N := 1) rfl ?_); refine box_event ?hg (N := 1) ?hd (cs := #[.slice A0_0 l0_0.length c0_0]) (t := 52) ?hr ?_; (case hd => rfl); (case hg => rfl); (case hr => first | (go_simp; done) | (go_simp; rfl)); intro gb908 hg w3 hbox hb; have n0_ := am_ (below_step z45_1 hb); have n1_ := am_ (hbox); have n2_ := am_ (by rw [hg]; exact (below_size z45_1) : w.heap.size ≤ gb908); have n3_ := am_ (by rw [hg]; exact (below_size z45_1) : w.heap.size ≤ gb908); clear HB; have HB := n0_; have BK908 := n1_; have GW908 := n2_; have GE908 := n3_; clear n0_ n1_ n2_ n3_; clear hb hbox hg) | ((with_reducible refine gate_dst (N := 2) rfl ?_); refine box_event ?hg (N := 2) ?hd (cs := #[.slice none 0 0]) (t := 35) ?hr ?_; (case hd => rfl); (case hg => rfl); (case hr => first | (go_simp; done) | (go_simp; rfl)); intro gb909 hg w4 hbox hb; have n0_ := am_ (blk_below (bu BK908.out) hb); have n1_ := am_ (below_step z45_2 hb); have n2_ := am_ (hbox); have n3_ := am_ (by rw [hg]; exact (below_size z45_2) : w.heap.size ≤ gb909); have n4_ := am_ (by rw [hg]; exact (below_size z45_2) : w.heap.size ≤ gb909); have n5_ := am_ (by rw [hg]; exact Nat.ne_of_lt (blk_lt (bu BK908.out)) : gb908 ≠ gb909); have n6_ := am_ (by rw [hg]; exact Nat.ne_of_gt (blk_lt (bu BK908.out)) : gb909 ≠ gb908); clear BK908 HB; have BK908 := n0_; have HB := n1_; have BK909 := n2_; have GW909 := n3_; have GE909 := n4_; have NB908_909 := n5_; have NB909_908 := n6_; clear n0_ n1_ n2_ n3_ n4_ n5_ n6_; clear hb hbox hg) | ((with_reducible refine gate_dst (N := 3) rfl ?_); refine box_event ?hg (N := 3) ?hd (cs := #[.slice none 0 0]) (t := 35) ?hr ?_; (case hd => rfl); (case hg => rfl); (case hr => first | (go_simp; done) | (go_simp; rfl)); intro gb910 hg w5 hbox hb; have n0_ := am_ (blk_below (bu BK908.out) hb); have n1_ := am_ (blk_below (bu BK909.out) hb); have n2_ := am_ (below_step z45_3 hb); have n3_ := am_ (hbox); have n4_ := am_ (by rw [hg]; exact (below_size z45_3) : w.heap.size ≤ gb910); have n5_ := am_ (by rw [hg]; exact (below_size z45_3) : w.heap.size ≤ gb910); have n6_ := am_ (by rw [hg]; exact Nat.ne_of_lt (blk_lt (bu BK908.out)) : gb908 ≠ gb910); have n7_ := am_ (by rw [hg]; exact Nat.ne_of_gt (blk_lt (bu BK908.out)) : gb910 ≠ gb908); have n8_ := am_ (by rw [hg]; exact Nat.ne_of_lt (blk_lt (bu BK909.out)) : gb909 ≠ gb910); have n9_ := am_ (by rw [hg]; exact Nat.ne_of_gt (blk_lt (bu BK909.out)) : gb910 ≠ gb909); clear BK908 BK909 HB; have BK908 := n0_; have BK909 := n1_; have HB := n2_; have BK910 := n3_; have GW910 := n4_; have GE910 := n5_; have NB908_910 := n6_; have NB910_908 := n7_; have NB909_910 := n8_; have NB910_909 := n9_; clear n0_ n1_ n2_ n3_ n4_ n5_ n6_ n7_ n8_ n9_; clear hb hbox hg; have hnb6 := NB908_909.out; have hnc6 := NB909_908.out; have hnb7 := NB908_910.out; have hnc7 := NB910_908.out; have hcz8_0 : w5.cell? ⟨gb908, 0, none⟩ = some (.slice A0_0 l0_0.length c0_0) := (blk_cell BK908.out 0).trans rfl; have hfz8_0 := blk_frozen BK908.out 0) | ((with_reducible refine gate_callee (f := 95) rfl ?_); refine goesL_ (some 6) rfl rfl Try.func95 (by kernel_rfl) rfl #[.slice A0_0 l0_0.length c0_0] rfl (by (try simp only [List.map_toArray, List.map_cons, List.map_nil]); first | done | rfl | (simp only [List.length_drop, List.length_take]; rfl)) ?_; (with_reducible refine (laws_toDoSS.calls k _ _ l0_0 t911 _ ?side1 ?side2 A2.out).mono ?_); (case side1 => repeat (first | exact (Kd.C_below HR0_0.out HB.out) | (with_reducible refine Kd.C_alloc ?_ _) | (with_reducible refine Kd.C_drewN ?_ _) | (with_reducible refine Kd.C_drew ?_))); (case side2 => exact HC0_0.out); rintro e w9 ⟨v912, rfl, ho0, hb⟩; refine ⟨_, rfl, ?_⟩; have n0_ := am_ (Kd.S_lower ho0 (below_size z45_4)); have n1_ := am_ (blk_below (bu BK908.out) hb); have n2_ := am_ (blk_below (bu BK909.out) hb); have n3_ := am_ (blk_below (bu BK910.out) hb); have n4_ := am_ (below_step z45_4 hb); clear BK908 BK909 BK910 HB; have HO913 := n0_; have BK908 := n1_; have BK909 := n2_; have BK910 := n3_; have HB := n4_; clear n0_ n1_ n2_ n3_ n4_; (try clear hb); (try clear hb2); (try clear hk); (try clear hi); (try clear ho0); obtain ⟨Ao10, co10, eo10⟩ := Kd.S_slice HO913.out; subst eo10; have hnb11 := NB910_909.out; have hnc11 := NB909_910.out; have hcz12_0 : w9.cell? ⟨gb910, 0, none⟩ = some (.slice none 0 0) := (blk_cell BK910.out 0).trans rfl; have hfz12_0 := blk_frozen BK910.out 0; have hcz13_0 : w9.cell? ⟨gb909, 0, none⟩ = some (.slice none 0 0) := (blk_cell BK909.out 0).trans rfl; have hfz13_0 := blk_frozen BK909.out 0))
 refine bodyPost_ret (results_cell_row rfl _ _ gb909 35 #[.slice Ao10 t911.length co10] (0, 0) _ rfl (by (with_reducible repeat (first | refine blk_drewN ?_ _ | refine blk_drew ?_ | refine blk_alloc ?_ _)); refine blk_put (cs := #[.slice none 0 0]) ?_ 0 _ rfl; (with_reducible repeat (first | refine blk_drewN ?_ _ | refine blk_drew ?_ | refine blk_alloc ?_ _)); refine blk_far ?_ NB909_910.out _; (with_reducible repeat (first | refine blk_drewN ?_ _ | refine blk_drew ?_ | refine blk_alloc ?_ _)); exact BK909.out) Try.underlying35 rfl (by kernel_rfl)) rfl ?_
 exact ⟨_, by first | rfl | (simp [errW_none, errW_some] <;> rfl) | (simp [*, errW_none, errW_some] <;> rfl), su (Kd.S_mono (Kd.S_far (p := ⟨gb909, 0, none⟩) (Kd.S_far (p := ⟨gb910, 0, none⟩) (Kd.S_types (Kd.S_types HO913.out BK910.out (by decide)) BK909.out (by decide)) (fun _ hk => hk.1.2) (.slice Ao10 t911.length co10)) (fun _ hk => hk.2) (.slice Ao10 t911.length co10)) (fun _ hk => trivial)), z45_4⟩

end Go.Proofs.Ytefkbmhkhpekjaa.PB

namespace Go.Proofs.Ytefkbmhkhpekjaa.PB
open Go.RowKit Go.Proofs.YtefkbmhkhpekjaaW.PrintWords Go.Proofs.YtefkbmhkhpekjaaW.PrintLast Go.Proofs.YtefkbmhkhpekjaaW.PrintMore
attribute [local go_sem] max2_int min2_int max_two min_two max_three min_three max_four min_four   -- for this text's walks alone
open Go.Proofs.YtefkbmhkhpekjaaMine
set_option linter.unusedVariables false
set_option linter.unusedSimpArgs false

/-! ### laws_FnExactTurnBeside: function 11 -/
def laws_FnExactTurnBeside.T8 : Bool × List (List Nat × List Nat) := (true, [([], []), ([0], [0]), ([], []), ([2, 1], [2]), ([1, 3, 3], [1, 3]), ([4], [4]), ([5], [5]), ([5], [5]), ([], []), ([8, 6, 4, 0, 1, 2, 3, 4, 5, 6, 8], [6, 8]), ([7, 9, 0, 1, 2, 3, 4, 5, 6, 7, 8, 9], [7])])
def laws_FnExactTurnBeside.B8 : List Nat := [0, 1, 0, 7, 15, 31, 63, 63, 0, 383, 1023]
theorem laws_FnExactTurnBeside.tab8 : rtab .any (opsOf Try.f11 8) = laws_FnExactTurnBeside.T8 := by kernel_rfl
theorem laws_FnExactTurnBeside.bits8 : waitsOk laws_FnExactTurnBeside.T8.2 laws_FnExactTurnBeside.B8 = true := by kernel_rfl
def laws_FnExactTurnBeside.T31 : Bool × List (List Nat × List Nat) := (true, [([], []), ([0], [0]), ([], []), ([2, 1], [2]), ([1, 3, 3], [1, 3]), ([4], [4]), ([5], [5]), ([5], [5]), ([], []), ([8, 6, 4, 0, 1, 2, 3, 4, 5, 6, 8], [6, 8]), ([7, 9, 0, 1, 2, 3, 4, 5, 6, 7, 8, 9], [7])])
def laws_FnExactTurnBeside.B31 : List Nat := [0, 1, 0, 7, 15, 31, 63, 63, 0, 383, 1023]
theorem laws_FnExactTurnBeside.tab31 : rtab .any (opsOf Try.f11 31) = laws_FnExactTurnBeside.T31 := by kernel_rfl
theorem laws_FnExactTurnBeside.bits31 : waitsOk laws_FnExactTurnBeside.T31.2 laws_FnExactTurnBeside.B31 = true := by kernel_rfl
def laws_FnExactTurnBeside.T14 : Bool × List (List Nat × List Nat) := (true, [([], []), ([], []), ([1], [1]), ([0, 2, 2], [0, 2]), ([3], [3])])
def laws_FnExactTurnBeside.B14 : List Nat := [0, 0, 2, 7, 15]
theorem laws_FnExactTurnBeside.tab14 : rtab .any (opsOf Try.f11 14) = laws_FnExactTurnBeside.T14 := by kernel_rfl
theorem laws_FnExactTurnBeside.bits14 : waitsOk laws_FnExactTurnBeside.T14.2 laws_FnExactTurnBeside.B14 = true := by kernel_rfl
def laws_FnExactTurnBeside.T16 : Bool × List (List Nat × List Nat) := (true, [([], []), ([], []), ([1], [1]), ([0, 2, 2], [0, 2]), ([3], [3])])
def laws_FnExactTurnBeside.B16 : List Nat := [0, 0, 2, 7, 15]
theorem laws_FnExactTurnBeside.tab16 : rtab .any (opsOf Try.f11 16) = laws_FnExactTurnBeside.T16 := by kernel_rfl
theorem laws_FnExactTurnBeside.bits16 : waitsOk laws_FnExactTurnBeside.T16.2 laws_FnExactTurnBeside.B16 = true := by kernel_rfl
def laws_FnExactTurnBeside.Facts (k : Nat) (l l2 : List (List S130)) (p q want p1 q1 w2 : List (List S85)) (told : Bool) (left left2 k1 k2 m : Int) : Prop := laws_szProg.f k l 1048576 = some left ∧ (left < 0 ∨ laws_szProg.f k l2 left = some left2 ∧ (left2 < 0 ∨ laws_toProg.f k l = some p ∧ laws_toProg.f k l2 = some q ∧ spec_TurnBeside.f k p q = some (want, told) ∧ impl_TurnBeside.f k p q = some (want, told) ∧ laws_eqProg.f k want want = some true ∧ laws_eqProg.f k p p = some true ∧ laws_eqProg.f k q q = some true ∧ laws_markDoSS.f k p 1 = some (k1, p1) ∧ laws_markDoSS.f k q k1 = some (k2, q1) ∧ 0 ≤ k2 ∧ laws_markDoSS.f k want 1 = some (m, w2) ∧ 0 ≤ m ∧ laws_heldProg.f k w2 1 = some m))
set_option maxRecDepth 100000 in
set_option maxHeartbeats 8000000 in
theorem laws_FnExactTurnBeside.calls (k : Nat) (A0 : Option Addr) (c0 : Nat) (l : List (List S130)) (A1 : Option Addr) (c1 : Nat) (l2 : List (List S130)) (w : World) (p q want p1 q1 w2 : List (List S85)) (told : Bool) (left left2 k1 k2 m : Int) (hr0 : Kd.C (Kd.slice 130 k130) w A0 l.length l) (hc0 : l.length ≤ c0) (hr1 : Kd.C (Kd.slice 130 k130) w A1 l2.length l2) (hc1 : l2.length ≤ c1) (h : laws_FnExactTurnBeside.Facts k l l2 p q want p1 q1 w2 told left left2 k1 k2 m) :
  Calls Try.prog 11 #[.agg #[.slice A0 l.length c0], .agg #[.slice A1 l2.length c1]] w fun e w' => e = .returned (.bool true) ∧ Below w.heap.size w w' := by
 have CL := am_ hr0
 have LL := am_ hc0
 have CM := am_ hr1
 have LM := am_ hc1
 unfold laws_FnExactTurnBeside.Facts at h
 obtain ⟨h1, h2⟩ := h
 have F1 := am_ h1
 have FF := am_ h2
 clear hr0 hc0 hr1 hc1 h1 h2
 have hx0 := blk_alloc (heap_alloc_new w (Obj.cells #[Value.slice A0 l.length c0] 52)) (Obj.cells #[Value.slice A1 l2.length c1] 52)
 have hx1 := heap_alloc_new (w.alloc (Obj.cells #[Value.slice A0 l.length c0] 52)) (Obj.cells #[Value.slice A1 l2.length c1] 52)
 rw [World.size_alloc] at hx1
 have BL0a := am_ hx0
 have BL1a := am_ hx1
 have HBa := am_ (below_alloc (below_alloc (Below.refl w.heap.size w) (Obj.cells #[Value.slice A0 l.length c0] 52)) (Obj.cells #[Value.slice A1 l2.length c1] 52))
 clear hx0 hx1
 go_enter Try.func11, Try.ntmps11
 go_wp2_with (go_at_call 44; refine park ?_)
 refine ⟨?_⟩
 refine (laws_szProg.calls k _ _ l 1048576 left _ (Kd.C_below CL.out HBa.out) LL.out F1.out).mono ?_
 rintro e W1 ⟨rfl, hb⟩
 have BL0_0 := am_ (blk_below BL0a.out hb)
 have BL1_0 := am_ (blk_below BL1a.out hb)
 have HB_0 := am_ (below_then HBa.out HBa.out.size hb)
 clear hb HBa BL0a BL1a
 by_cases hlt : left < 0
 ·have hlb := decide_eq_true hlt
  clear FF
  go_wp2_with fail
  refine bodyPost_ret (results_tmp rfl _ _ _) rfl ?_
  exact ⟨rfl, HB_0.out⟩
 have hlb := decide_eq_false hlt
 obtain ⟨h1, h2⟩ := FF.out.resolve_left hlt
 clear FF hlt
 have F2 := am_ h1
 have FF := am_ h2
 clear h1 h2
 have hl0 : W1.cell? ⟨w.heap.size + 1, 0, none⟩ = some (.slice A1 l2.length c1) := (blk_cell BL1_0.out 0).trans rfl
 go_wp2_with (go_at_call 44; refine park ?_)
 clear hl0
 refine ⟨?_⟩
 have QW1 := am_ (show w.heap.size ≤ W1.heap.size from HB_0.out.size)
 clear hlb
 refine (laws_szProg.calls k _ _ l2 left left2 _ (Kd.C_below CM.out HB_0.out) LM.out F2.out).mono ?_
 rintro e W2 ⟨rfl, hb⟩
 have BL0_1 := am_ (blk_below BL0_0.out hb)
 have BL1_1 := am_ (blk_below BL1_0.out hb)
 have HB_1 := am_ (below_then HB_0.out HB_0.out.size hb)
 clear BL0_0 BL1_0 HB_0 hb
 by_cases hlt : left2 < 0
 ·have hlb := decide_eq_true hlt
  clear FF
  go_wp2_with fail
  refine bodyPost_ret (results_tmp rfl _ _ _) rfl ?_
  exact ⟨rfl, HB_1.out⟩
 have hlb := decide_eq_false hlt
 obtain ⟨f_to, f_toq, f_sp, f_im, f_eqw, f_eqp, f_eqq, f_mk, f_mkq, f_k2, f_mkw, f_m0, f_held⟩ := FF.out.resolve_left hlt
 have Gto := am_ f_to
 have Gtoq := am_ f_toq
 have Gsp := am_ f_sp
 have Gim := am_ f_im
 have Geqw := am_ f_eqw
 have Geqp := am_ f_eqp
 have Geqq := am_ f_eqq
 have Gmk := am_ f_mk
 have Gmkq := am_ f_mkq
 have Gk2 := am_ f_k2
 have Gmkw := am_ f_mkw
 have Gm0 := am_ f_m0
 have Gheld := am_ f_held
 clear FF f_to f_toq f_sp f_im f_eqw f_eqp f_eqq f_mk f_mkq f_k2 f_mkw f_m0 f_held
 have LT1 := am_ (show w.heap.size + 1 < W2.heap.size from blk_lt BL1_1.out)
 have QW2 := am_ (show w.heap.size ≤ W2.heap.size from HB_1.out.size)
 have htt : (told != told) = false := by cases told <;> rfl
 go_wp2_with fail
 have hb := below_drew (Below.refl W2.heap.size W2)
 have BL0_2 := am_ (blk_below BL0_1.out hb)
 have BL1_2 := am_ (blk_below BL1_1.out hb)
 have HB_2 := am_ (below_then HB_1.out HB_1.out.size hb)
 clear BL0_1 BL1_1 HB_1 hb
 refine start_ (n := 11) (S := fun w' => w'.cell? ⟨w.heap.size, 0, none⟩ = some (.slice A0 l.length c0) ∧ w'.cell? ⟨w.heap.size + 1, 0, none⟩ = some (.slice A1 l2.length c1)) (ds := []) #[false, false, false, false, false, false, false, false, false, false, false] (by kernel_rfl) rfl rfl ⟨(blk_cell BL0_2.out 0).trans rfl, (blk_cell BL1_2.out 0).trans rfl⟩ (fun hHeld => ?_)
 refine with_tabW laws_FnExactTurnBeside.tab8 laws_FnExactTurnBeside.bits8 (fun HT_ HW_ => ?_)
 generalize W2.drew = V0 at *
 have QV0 := am_ (show w.heap.size ≤ V0.heap.size from HB_2.out.size)
 have NL0V0 := am_ (show w.heap.size < V0.heap.size from blk_lt BL0_2.out)
 have NL1V0 := am_ (show w.heap.size + 1 < V0.heap.size from blk_lt BL1_2.out)
 refine take_ (i := 0) (N := some 28) (v := ?_) (a' := ?_) #[true, false, false, false, false, false, false, false, false, false, false] rfl rfl (take_ofW HT_.out HW_.out (by kernel_rfl)) (fun _ _ _ h => h) (Or.inl ⟨by rfl, ?_⟩) hHeld ?_ ?_
 rotate_left
 ·intro w' s0
  have s1 := s0.1
  go_simp
  with_reducible rfl
 rotate_left
 ·simp only [Act.put, List.setIfInBounds_toArray, List.set_cons_zero, List.set_cons_succ, i64_w, i32_w]
  rfl
 refine take_ (i := 2) (N := some 30) (v := ?_) (a' := ?_) #[true, false, true, false, false, false, false, false, false, false, false] rfl rfl (take_ofW HT_.out HW_.out (by kernel_rfl)) (fun _ _ _ h => h) (Or.inl ⟨by rfl, ?_⟩) hHeld ?_ ?_
 rotate_left
 ·intro w' s0
  have s1 := s0.2
  go_simp
  with_reducible rfl
 rotate_left
 ·simp only [Act.put, List.setIfInBounds_toArray, List.set_cons_zero, List.set_cons_succ, i64_w, i32_w]
  rfl
 refine join_ (σ := Value × Value × Value × Nat) 2 #[true, true, true, true, true, true, true, true, true, false, false] (fun s_ => [(29, .agg #[s_.1]), (31, .agg #[s_.2.1]), (32, .tuple #[.agg #[s_.2.2.1], .bool told]), (27, .tuple #[.agg #[s_.2.2.1], .bool told]), (33, .agg #[s_.2.2.1]), (34, .bool told), (6, .pointer (some ⟨s_.2.2.2, 0, none⟩))]) (fun s_ w' => (w'.cell? ⟨w.heap.size, 0, none⟩ = some (.slice A0 l.length c0) ∧ w'.cell? ⟨w.heap.size + 1, 0, none⟩ = some (.slice A1 l2.length c1)) ∧ w'.heap[w.heap.size]? = some (Obj.cells #[Value.slice A0 l.length c0] 52) ∧ w'.heap[w.heap.size + 1]? = some (Obj.cells #[Value.slice A1 l2.length c1] 52) ∧ w'.heap[s_.2.2.2]? = some (Obj.cells #[Value.slice none 0 0] 35) ∧ Kd.S (Kd.slice 85 k85) 82 w' w.heap.size (fun j => V0.heap.size ≤ j ∧ j < w'.heap.size ∧ j ≠ s_.2.2.2) s_.2.2.1 want ∧ Below w.heap.size w w' ∧ V0.heap.size ≤ s_.2.2.2 ∧ s_.2.2.2 < w'.heap.size) ?_ ?_
 rotate_left
 ·intro hCont
  refine two_ (i := 1) (j := 8) (Ni := some 29) (Nj := some 6) #[true, true, true, false, false, false, false, false, false, false, false] #[true, false, true, false, false, false, false, false, true, false, false] rfl rfl rfl rfl (two_of HT_.out (by kernel_rfl)) (by decide) (by decide) (fun K hK => ?_) (fun K hK => ?_)
  ·refine goes_ Try.func45 (by kernel_rfl) rfl #[.agg #[.slice A0 l.length c0]] (by rfl) rfl rfl (by (try simp only [List.map_toArray, List.map_cons, List.map_nil]); first | done | rfl) ?_
   with_reducible refine (laws_toProg.calls k _ _ l p _ (Kd.C_below CL.out HB_2.out) LL.out Gto.out).mono ?_
   rintro e V0n1 ⟨va, rfl, hS, hb⟩
   refine ⟨_, rfl, ?_⟩
   obtain ⟨Aa, ca, rfl⟩ := Kd.S_slice hS
   have BL0_3 := am_ (blk_below BL0_2.out hb)
   have BL1_3 := am_ (blk_below BL1_2.out hb)
   have HB_3 := am_ (below_then HB_2.out HB_2.out.size hb)
   clear BL0_2 BL1_2 HB_2
   have Ra_n := am_ hS
   have HVV0n1 : V0.heap.size ≤ V0n1.heap.size := hb.size
   clear hS hb
   have VV_v4 := am_ (show V0.heap.size ≤ V0n1.heap.size from HVV0n1)
   refine hK.out _ _ ⟨(blk_cell BL0_3.out 0).trans rfl, (blk_cell BL1_3.out 0).trans rfl⟩ (fun hHeld => ?_)
   clear hK K
   refine norm_ (a' := ?_) ?_ ?_
   rotate_left
   ·show Act.put _ (some 29) _ = _
    simp only [Act.put, List.setIfInBounds_toArray, List.set_cons_zero, List.set_cons_succ, i64_w, i32_w]
    rfl
   refine two_ (i := 3) (j := 8) (Ni := some 31) (Nj := some 6) #[true, true, true, true, false, false, false, false, false, false, false] #[true, true, true, false, false, false, false, false, true, false, false] rfl rfl rfl rfl (two_of HT_.out (by kernel_rfl)) (by decide) (by decide) (fun K hK => ?_) (fun K hK => ?_)
   ·refine goes_ Try.func45 (by kernel_rfl) rfl #[.agg #[.slice A1 l2.length c1]] (by rfl) rfl rfl (by (try simp only [List.map_toArray, List.map_cons, List.map_nil]); first | done | rfl) ?_
    with_reducible refine (laws_toProg.calls k _ _ l2 q _ (Kd.C_below CM.out HB_3.out) LM.out Gtoq.out).mono ?_
    rintro e V0n2 ⟨vb, rfl, hS, hb⟩
    refine ⟨_, rfl, ?_⟩
    obtain ⟨Ab, cb, rfl⟩ := Kd.S_slice hS
    have Ra_5 := am_ (Kd.S_below Ra_n.out hb)
    have BL0_5 := am_ (blk_below BL0_3.out hb)
    have BL1_5 := am_ (blk_below BL1_3.out hb)
    have HB_5 := am_ (below_then HB_3.out HB_3.out.size hb)
    clear Ra_n BL0_3 BL1_3 HB_3
    have Rb_n := am_ hS
    have HVV0n2 : V0.heap.size ≤ V0n2.heap.size := Nat.le_trans VV_v4.out hb.size
    clear hS hb
    have VV_v6 := am_ (show V0.heap.size ≤ V0n2.heap.size from HVV0n2)
    refine hK.out _ _ ⟨(blk_cell BL0_5.out 0).trans rfl, (blk_cell BL1_5.out 0).trans rfl⟩ (fun hHeld => ?_)
    clear hK K
    refine norm_ (a' := ?_) ?_ ?_
    rotate_left
    ·show Act.put _ (some 31) _ = _
     simp only [Act.put, List.setIfInBounds_toArray, List.set_cons_zero, List.set_cons_succ, i64_w, i32_w]
     rfl
    refine two_ (i := 4) (j := 8) (Ni := some 32) (Nj := some 6) #[true, true, true, true, true, false, false, false, false, false, false] #[true, true, true, true, false, false, false, false, true, false, false] rfl rfl rfl rfl (two_of HT_.out (by kernel_rfl)) (by decide) (by decide) (fun K hK => ?_) (fun K hK => ?_)
    ·refine goes_ Try.func38 (by kernel_rfl) rfl #[.agg #[.slice Aa p.length ca], .agg #[.slice Ab q.length cb]] (by rfl) rfl rfl (by (try simp only [List.map_toArray, List.map_cons, List.map_nil]); first | done | rfl) ?_
     with_reducible refine (spec_TurnBeside.calls k _ _ p _ _ q want told _ (Kd.S_reads' Ra_5.out).2.2 (Kd.S_reads' Ra_5.out).2.1 (Kd.S_reads' Rb_n.out).2.2 (Kd.S_reads' Rb_n.out).2.1 Gsp.out).mono ?_
     rintro e V0n3 ⟨vc, rfl, hS, hb⟩
     refine ⟨_, rfl, ?_⟩
     obtain ⟨Ac, cc, rfl⟩ := Kd.S_slice hS
     have hle : w.heap.size ≤ V0n2.heap.size := HB_5.out.size
     have hvv : V0.heap.size ≤ V0n2.heap.size := VV_v6.out
     have BL0_7 := am_ (blk_below BL0_5.out hb)
     have BL1_7 := am_ (blk_below BL1_5.out hb)
     have HB_7 := am_ (below_then HB_5.out HB_5.out.size hb)
     clear BL0_5 BL1_5 HB_5
     have Rc_n := am_ (Kd.S_lower (Kd.S_mono (ok' := fun j => V0.heap.size ≤ j ∧ j < V0n3.heap.size) (Kd.S_bound hS) (fun j hj => ⟨Nat.le_trans hvv hj.2.1, hj.2.2.1⟩)) hle)
     clear hS hle hvv
     have VV_v8 := am_ (show V0.heap.size ≤ V0n3.heap.size from Nat.le_trans VV_v6.out hb.size)
     refine hK.out _ _ ⟨(blk_cell BL0_7.out 0).trans rfl, (blk_cell BL1_7.out 0).trans rfl⟩ (fun hHeld => ?_)
     clear hK K
     refine norm_ (a' := ?_) ?_ ?_
     rotate_left
     ·show Act.put _ (some 32) _ = _
      simp only [Act.put, List.setIfInBounds_toArray, List.set_cons_zero, List.set_cons_succ, i64_w, i32_w]
      rfl
     refine pure_ (i := 5) (N := some 27) (v := ?_) (a' := ?_) #[true, true, true, true, true, true, false, false, false, false, false] rfl rfl (any_of HT_.out (by kernel_rfl)) (fun _ _ _ h => h) (Or.inl ⟨by rfl, ?_⟩) ?_ ?_
     rotate_left
     ·intro w'
      go_simp
      with_reducible rfl
     rotate_left
     ·simp only [Act.put, List.setIfInBounds_toArray, List.set_cons_zero, List.set_cons_succ, i64_w, i32_w]
      rfl
     refine pure_ (i := 6) (N := some 33) (v := ?_) (a' := ?_) #[true, true, true, true, true, true, true, false, false, false, false] rfl rfl (any_of HT_.out (by kernel_rfl)) (fun _ _ _ h => h) (Or.inl ⟨by rfl, ?_⟩) ?_ ?_
     rotate_left
     ·intro w'
      go_simp
      with_reducible rfl
     rotate_left
     ·simp only [Act.put, List.setIfInBounds_toArray, List.set_cons_zero, List.set_cons_succ, i64_w, i32_w]
      rfl
     refine pure_ (i := 7) (N := some 34) (v := ?_) (a' := ?_) #[true, true, true, true, true, true, true, true, false, false, false] rfl rfl (any_of HT_.out (by kernel_rfl)) (fun _ _ _ h => h) (Or.inl ⟨by rfl, ?_⟩) ?_ ?_
     rotate_left
     ·intro w'
      go_simp
      with_reducible rfl
     rotate_left
     ·simp only [Act.put, List.setIfInBounds_toArray, List.set_cons_zero, List.set_cons_succ, i64_w, i32_w]
      rfl
     refine one_ (i := 8) (N := some 6) #[true, true, true, true, true, true, true, true, true, false, false] rfl rfl (one_of HT_.out (by kernel_rfl)) (by decide) (fun K hK => ?_)
     refine box_step (by rfl) (N := 6) rfl (cs := #[Value.slice none 0 0]) (t := 35) ?hr ?_
     case hr => first | (go_simp; done) | (go_simp; rfl)
     intro gx hgx V0n4 hbx hb
     have GX := am_ (show V0.heap.size ≤ gx from by rw [hgx]; exact VV_v8.out)
     have hrc := Kd.S_mono (ok' := fun j => V0.heap.size ≤ j ∧ j < V0n4.heap.size ∧ j ≠ gx) Rc_n.out (fun j hj => ⟨hj.1, by have := hj.2; have := hb.size; omega, by have := hj.2; omega⟩)
     have BL0_9 := am_ (blk_below BL0_7.out hb)
     have BL1_9 := am_ (blk_below BL1_7.out hb)
     have HB_9 := am_ (below_then HB_7.out HB_7.out.size hb)
     clear BL0_7 BL1_7 HB_7
     have BX_n := am_ hbx
     have Rc_m := am_ (Kd.S_below hrc hb)
     clear hrc Rc_n
     have GL_n := am_ (show gx < V0n4.heap.size from blk_lt hbx)
     clear hbx hgx
     have VV_v10 := am_ (show V0.heap.size ≤ V0n4.heap.size from Nat.le_trans VV_v8.out hb.size)
     refine hK.out _ _ ⟨(blk_cell BL0_9.out 0).trans rfl, (blk_cell BL1_9.out 0).trans rfl⟩ (fun hHeld => ?_)
     clear hK K
     refine norm_ (a' := ?_) ?_ ?_
     rotate_left
     ·show Act.put _ (some 6) _ = _
      simp only [Act.put, List.setIfInBounds_toArray, List.set_cons_zero, List.set_cons_succ, i64_w, i32_w]
      rfl
     have zz := hCont (.slice Aa p.length ca, .slice Ab q.length cb, .slice Ac want.length cc, gx) _ ⟨⟨(blk_cell BL0_9.out 0).trans rfl, (blk_cell BL1_9.out 0).trans rfl⟩, BL0_9.out, BL1_9.out, BX_n.out, Rc_m.out, HB_9.out, GX.out, GL_n.out⟩
     simp only [putAll, Act.put, List.setIfInBounds_toArray, List.set_cons_zero, List.set_cons_succ] at zz
     exact zz
    ·refine box_step (by rfl) (N := 6) rfl (cs := #[Value.slice none 0 0]) (t := 35) ?hr ?_
     case hr => first | (go_simp; done) | (go_simp; rfl)
     intro gx hgx V0n5 hbx hb
     have GX := am_ (show V0.heap.size ≤ gx from by rw [hgx]; exact VV_v6.out)
     have Ra_7 := am_ (Kd.S_below Ra_5.out hb)
     have Rb_7 := am_ (Kd.S_below Rb_n.out hb)
     have BL0_7 := am_ (blk_below BL0_5.out hb)
     have BL1_7 := am_ (blk_below BL1_5.out hb)
     have HB_7 := am_ (below_then HB_5.out HB_5.out.size hb)
     clear Ra_5 Rb_n BL0_5 BL1_5 HB_5
     have BX_n := am_ hbx
     have GL_n := am_ (show gx < V0n5.heap.size from blk_lt hbx)
     clear hbx hgx
     have VV_v8 := am_ (show V0.heap.size ≤ V0n5.heap.size from Nat.le_trans VV_v6.out hb.size)
     refine hK.out _ _ ⟨(blk_cell BL0_7.out 0).trans rfl, (blk_cell BL1_7.out 0).trans rfl⟩ (fun hHeld => ?_)
     clear hK K
     refine norm_ (a' := ?_) ?_ ?_
     rotate_left
     ·show Act.put _ (some 6) _ = _
      simp only [Act.put, List.setIfInBounds_toArray, List.set_cons_zero, List.set_cons_succ, i64_w, i32_w]
      rfl
     refine one_ (i := 4) (N := some 32) #[true, true, true, true, true, false, false, false, true, false, false] rfl rfl (one_of HT_.out (by kernel_rfl)) (by decide) (fun K hK => ?_)
     refine goes_ Try.func38 (by kernel_rfl) rfl #[.agg #[.slice Aa p.length ca], .agg #[.slice Ab q.length cb]] (by rfl) rfl rfl (by (try simp only [List.map_toArray, List.map_cons, List.map_nil]); first | done | rfl) ?_
     with_reducible refine (spec_TurnBeside.calls k _ _ p _ _ q want told _ (Kd.S_reads' Ra_7.out).2.2 (Kd.S_reads' Ra_7.out).2.1 (Kd.S_reads' Rb_7.out).2.2 (Kd.S_reads' Rb_7.out).2.1 Gsp.out).mono ?_
     rintro e V0n6 ⟨vc, rfl, hS, hb⟩
     refine ⟨_, rfl, ?_⟩
     obtain ⟨Ac, cc, rfl⟩ := Kd.S_slice hS
     have hle : w.heap.size ≤ V0n5.heap.size := HB_7.out.size
     have hvv : V0.heap.size ≤ V0n5.heap.size := VV_v8.out
     have BL0_9 := am_ (blk_below BL0_7.out hb)
     have BL1_9 := am_ (blk_below BL1_7.out hb)
     have BX_9 := am_ (blk_below BX_n.out hb)
     have HB_9 := am_ (below_then HB_7.out HB_7.out.size hb)
     clear BL0_7 BL1_7 BX_n HB_7
     have hgl := GL_n.out
     have Rc_n := am_ (Kd.S_lower (Kd.S_mono (ok' := fun j => V0.heap.size ≤ j ∧ j < V0n6.heap.size ∧ j ≠ gx) (Kd.S_bound hS) (fun j hj => ⟨Nat.le_trans hvv hj.2.1, hj.2.2.1, by have := hj.2.1; omega⟩)) hle)
     clear hS hle hvv hgl
     have VV_v10 := am_ (show V0.heap.size ≤ V0n6.heap.size from Nat.le_trans VV_v8.out hb.size)
     have GL_v10 := am_ (show gx < V0n6.heap.size from blk_lt BX_9.out)
     refine hK.out _ _ ⟨(blk_cell BL0_9.out 0).trans rfl, (blk_cell BL1_9.out 0).trans rfl⟩ (fun hHeld => ?_)
     clear hK K
     refine norm_ (a' := ?_) ?_ ?_
     rotate_left
     ·show Act.put _ (some 32) _ = _
      simp only [Act.put, List.setIfInBounds_toArray, List.set_cons_zero, List.set_cons_succ, i64_w, i32_w]
      rfl
     refine pure_ (i := 5) (N := some 27) (v := ?_) (a' := ?_) #[true, true, true, true, true, true, false, false, true, false, false] rfl rfl (any_of HT_.out (by kernel_rfl)) (fun _ _ _ h => h) (Or.inl ⟨by rfl, ?_⟩) ?_ ?_
     rotate_left
     ·intro w'
      go_simp
      with_reducible rfl
     rotate_left
     ·simp only [Act.put, List.setIfInBounds_toArray, List.set_cons_zero, List.set_cons_succ, i64_w, i32_w]
      rfl
     refine pure_ (i := 6) (N := some 33) (v := ?_) (a' := ?_) #[true, true, true, true, true, true, true, false, true, false, false] rfl rfl (any_of HT_.out (by kernel_rfl)) (fun _ _ _ h => h) (Or.inl ⟨by rfl, ?_⟩) ?_ ?_
     rotate_left
     ·intro w'
      go_simp
      with_reducible rfl
     rotate_left
     ·simp only [Act.put, List.setIfInBounds_toArray, List.set_cons_zero, List.set_cons_succ, i64_w, i32_w]
      rfl
     refine pure_ (i := 7) (N := some 34) (v := ?_) (a' := ?_) #[true, true, true, true, true, true, true, true, true, false, false] rfl rfl (any_of HT_.out (by kernel_rfl)) (fun _ _ _ h => h) (Or.inl ⟨by rfl, ?_⟩) ?_ ?_
     rotate_left
     ·intro w'
      go_simp
      with_reducible rfl
     rotate_left
     ·simp only [Act.put, List.setIfInBounds_toArray, List.set_cons_zero, List.set_cons_succ, i64_w, i32_w]
      rfl
     have zz := hCont (.slice Aa p.length ca, .slice Ab q.length cb, .slice Ac want.length cc, gx) _ ⟨⟨(blk_cell BL0_9.out 0).trans rfl, (blk_cell BL1_9.out 0).trans rfl⟩, BL0_9.out, BL1_9.out, BX_9.out, Rc_n.out, HB_9.out, GX.out, GL_v10.out⟩
     simp only [putAll, Act.put, List.setIfInBounds_toArray, List.set_cons_zero, List.set_cons_succ] at zz
     exact zz
   ·refine box_step (by rfl) (N := 6) rfl (cs := #[Value.slice none 0 0]) (t := 35) ?hr ?_
    case hr => first | (go_simp; done) | (go_simp; rfl)
    intro gx hgx V0n7 hbx hb
    have GX := am_ (show V0.heap.size ≤ gx from by rw [hgx]; exact VV_v4.out)
    have Ra_5 := am_ (Kd.S_below Ra_n.out hb)
    have BL0_5 := am_ (blk_below BL0_3.out hb)
    have BL1_5 := am_ (blk_below BL1_3.out hb)
    have HB_5 := am_ (below_then HB_3.out HB_3.out.size hb)
    clear Ra_n BL0_3 BL1_3 HB_3
    have BX_n := am_ hbx
    have GL_n := am_ (show gx < V0n7.heap.size from blk_lt hbx)
    clear hbx hgx
    have VV_v6 := am_ (show V0.heap.size ≤ V0n7.heap.size from Nat.le_trans VV_v4.out hb.size)
    refine hK.out _ _ ⟨(blk_cell BL0_5.out 0).trans rfl, (blk_cell BL1_5.out 0).trans rfl⟩ (fun hHeld => ?_)
    clear hK K
    refine norm_ (a' := ?_) ?_ ?_
    rotate_left
    ·show Act.put _ (some 6) _ = _
     simp only [Act.put, List.setIfInBounds_toArray, List.set_cons_zero, List.set_cons_succ, i64_w, i32_w]
     rfl
    refine one_ (i := 3) (N := some 31) #[true, true, true, true, false, false, false, false, true, false, false] rfl rfl (one_of HT_.out (by kernel_rfl)) (by decide) (fun K hK => ?_)
    refine goes_ Try.func45 (by kernel_rfl) rfl #[.agg #[.slice A1 l2.length c1]] (by rfl) rfl rfl (by (try simp only [List.map_toArray, List.map_cons, List.map_nil]); first | done | rfl) ?_
    with_reducible refine (laws_toProg.calls k _ _ l2 q _ (Kd.C_below CM.out HB_5.out) LM.out Gtoq.out).mono ?_
    rintro e V0n8 ⟨vb, rfl, hS, hb⟩
    refine ⟨_, rfl, ?_⟩
    obtain ⟨Ab, cb, rfl⟩ := Kd.S_slice hS
    have Ra_7 := am_ (Kd.S_below Ra_5.out hb)
    have BL0_7 := am_ (blk_below BL0_5.out hb)
    have BL1_7 := am_ (blk_below BL1_5.out hb)
    have BX_7 := am_ (blk_below BX_n.out hb)
    have HB_7 := am_ (below_then HB_5.out HB_5.out.size hb)
    clear Ra_5 BL0_5 BL1_5 BX_n HB_5
    have Rb_n := am_ hS
    have HVV0n8 : V0.heap.size ≤ V0n8.heap.size := Nat.le_trans VV_v6.out hb.size
    clear hS hb
    have VV_v8 := am_ (show V0.heap.size ≤ V0n8.heap.size from HVV0n8)
    have GL_v8 := am_ (show gx < V0n8.heap.size from blk_lt BX_7.out)
    refine hK.out _ _ ⟨(blk_cell BL0_7.out 0).trans rfl, (blk_cell BL1_7.out 0).trans rfl⟩ (fun hHeld => ?_)
    clear hK K
    refine norm_ (a' := ?_) ?_ ?_
    rotate_left
    ·show Act.put _ (some 31) _ = _
     simp only [Act.put, List.setIfInBounds_toArray, List.set_cons_zero, List.set_cons_succ, i64_w, i32_w]
     rfl
    refine one_ (i := 4) (N := some 32) #[true, true, true, true, true, false, false, false, true, false, false] rfl rfl (one_of HT_.out (by kernel_rfl)) (by decide) (fun K hK => ?_)
    refine goes_ Try.func38 (by kernel_rfl) rfl #[.agg #[.slice Aa p.length ca], .agg #[.slice Ab q.length cb]] (by rfl) rfl rfl (by (try simp only [List.map_toArray, List.map_cons, List.map_nil]); first | done | rfl) ?_
    with_reducible refine (spec_TurnBeside.calls k _ _ p _ _ q want told _ (Kd.S_reads' Ra_7.out).2.2 (Kd.S_reads' Ra_7.out).2.1 (Kd.S_reads' Rb_n.out).2.2 (Kd.S_reads' Rb_n.out).2.1 Gsp.out).mono ?_
    rintro e V0n9 ⟨vc, rfl, hS, hb⟩
    refine ⟨_, rfl, ?_⟩
    obtain ⟨Ac, cc, rfl⟩ := Kd.S_slice hS
    have hle : w.heap.size ≤ V0n8.heap.size := HB_7.out.size
    have hvv : V0.heap.size ≤ V0n8.heap.size := VV_v8.out
    have BL0_9 := am_ (blk_below BL0_7.out hb)
    have BL1_9 := am_ (blk_below BL1_7.out hb)
    have BX_9 := am_ (blk_below BX_7.out hb)
    have HB_9 := am_ (below_then HB_7.out HB_7.out.size hb)
    clear BL0_7 BL1_7 BX_7 HB_7
    have hgl := GL_v8.out
    have Rc_n := am_ (Kd.S_lower (Kd.S_mono (ok' := fun j => V0.heap.size ≤ j ∧ j < V0n9.heap.size ∧ j ≠ gx) (Kd.S_bound hS) (fun j hj => ⟨Nat.le_trans hvv hj.2.1, hj.2.2.1, by have := hj.2.1; omega⟩)) hle)
    clear hS hle hvv hgl
    have VV_v10 := am_ (show V0.heap.size ≤ V0n9.heap.size from Nat.le_trans VV_v8.out hb.size)
    have GL_v10 := am_ (show gx < V0n9.heap.size from blk_lt BX_9.out)
    refine hK.out _ _ ⟨(blk_cell BL0_9.out 0).trans rfl, (blk_cell BL1_9.out 0).trans rfl⟩ (fun hHeld => ?_)
    clear hK K
    refine norm_ (a' := ?_) ?_ ?_
    rotate_left
    ·show Act.put _ (some 32) _ = _
     simp only [Act.put, List.setIfInBounds_toArray, List.set_cons_zero, List.set_cons_succ, i64_w, i32_w]
     rfl
    refine pure_ (i := 5) (N := some 27) (v := ?_) (a' := ?_) #[true, true, true, true, true, true, false, false, true, false, false] rfl rfl (any_of HT_.out (by kernel_rfl)) (fun _ _ _ h => h) (Or.inl ⟨by rfl, ?_⟩) ?_ ?_
    rotate_left
    ·intro w'
     go_simp
     with_reducible rfl
    rotate_left
    ·simp only [Act.put, List.setIfInBounds_toArray, List.set_cons_zero, List.set_cons_succ, i64_w, i32_w]
     rfl
    refine pure_ (i := 6) (N := some 33) (v := ?_) (a' := ?_) #[true, true, true, true, true, true, true, false, true, false, false] rfl rfl (any_of HT_.out (by kernel_rfl)) (fun _ _ _ h => h) (Or.inl ⟨by rfl, ?_⟩) ?_ ?_
    rotate_left
    ·intro w'
     go_simp
     with_reducible rfl
    rotate_left
    ·simp only [Act.put, List.setIfInBounds_toArray, List.set_cons_zero, List.set_cons_succ, i64_w, i32_w]
     rfl
    refine pure_ (i := 7) (N := some 34) (v := ?_) (a' := ?_) #[true, true, true, true, true, true, true, true, true, false, false] rfl rfl (any_of HT_.out (by kernel_rfl)) (fun _ _ _ h => h) (Or.inl ⟨by rfl, ?_⟩) ?_ ?_
    rotate_left
    ·intro w'
     go_simp
     with_reducible rfl
    rotate_left
    ·simp only [Act.put, List.setIfInBounds_toArray, List.set_cons_zero, List.set_cons_succ, i64_w, i32_w]
     rfl
    have zz := hCont (.slice Aa p.length ca, .slice Ab q.length cb, .slice Ac want.length cc, gx) _ ⟨⟨(blk_cell BL0_9.out 0).trans rfl, (blk_cell BL1_9.out 0).trans rfl⟩, BL0_9.out, BL1_9.out, BX_9.out, Rc_n.out, HB_9.out, GX.out, GL_v10.out⟩
    simp only [putAll, Act.put, List.setIfInBounds_toArray, List.set_cons_zero, List.set_cons_succ] at zz
    exact zz
  ·refine box_step (by rfl) (N := 6) rfl (cs := #[Value.slice none 0 0]) (t := 35) ?hr ?_
   case hr => first | (go_simp; done) | (go_simp; rfl)
   intro gx hgx V0n10 hbx hb
   have GX := am_ (show V0.heap.size ≤ gx from by rw [hgx]; exact Nat.le_refl _)
   have BL0_3 := am_ (blk_below BL0_2.out hb)
   have BL1_3 := am_ (blk_below BL1_2.out hb)
   have HB_3 := am_ (below_then HB_2.out HB_2.out.size hb)
   clear BL0_2 BL1_2 HB_2
   have BX_n := am_ hbx
   have GL_n := am_ (show gx < V0n10.heap.size from blk_lt hbx)
   clear hbx hgx
   have VV_v4 := am_ (show V0.heap.size ≤ V0n10.heap.size from hb.size)
   refine hK.out _ _ ⟨(blk_cell BL0_3.out 0).trans rfl, (blk_cell BL1_3.out 0).trans rfl⟩ (fun hHeld => ?_)
   clear hK K
   refine norm_ (a' := ?_) ?_ ?_
   rotate_left
   ·show Act.put _ (some 6) _ = _
    simp only [Act.put, List.setIfInBounds_toArray, List.set_cons_zero, List.set_cons_succ, i64_w, i32_w]
    rfl
   refine one_ (i := 1) (N := some 29) #[true, true, true, false, false, false, false, false, true, false, false] rfl rfl (one_of HT_.out (by kernel_rfl)) (by decide) (fun K hK => ?_)
   refine goes_ Try.func45 (by kernel_rfl) rfl #[.agg #[.slice A0 l.length c0]] (by rfl) rfl rfl (by (try simp only [List.map_toArray, List.map_cons, List.map_nil]); first | done | rfl) ?_
   with_reducible refine (laws_toProg.calls k _ _ l p _ (Kd.C_below CL.out HB_3.out) LL.out Gto.out).mono ?_
   rintro e V0n11 ⟨va, rfl, hS, hb⟩
   refine ⟨_, rfl, ?_⟩
   obtain ⟨Aa, ca, rfl⟩ := Kd.S_slice hS
   have BL0_5 := am_ (blk_below BL0_3.out hb)
   have BL1_5 := am_ (blk_below BL1_3.out hb)
   have BX_5 := am_ (blk_below BX_n.out hb)
   have HB_5 := am_ (below_then HB_3.out HB_3.out.size hb)
   clear BL0_3 BL1_3 BX_n HB_3
   have Ra_n := am_ hS
   have HVV0n11 : V0.heap.size ≤ V0n11.heap.size := Nat.le_trans VV_v4.out hb.size
   clear hS hb
   have VV_v6 := am_ (show V0.heap.size ≤ V0n11.heap.size from HVV0n11)
   have GL_v6 := am_ (show gx < V0n11.heap.size from blk_lt BX_5.out)
   refine hK.out _ _ ⟨(blk_cell BL0_5.out 0).trans rfl, (blk_cell BL1_5.out 0).trans rfl⟩ (fun hHeld => ?_)
   clear hK K
   refine norm_ (a' := ?_) ?_ ?_
   rotate_left
   ·show Act.put _ (some 29) _ = _
    simp only [Act.put, List.setIfInBounds_toArray, List.set_cons_zero, List.set_cons_succ, i64_w, i32_w]
    rfl
   refine one_ (i := 3) (N := some 31) #[true, true, true, true, false, false, false, false, true, false, false] rfl rfl (one_of HT_.out (by kernel_rfl)) (by decide) (fun K hK => ?_)
   refine goes_ Try.func45 (by kernel_rfl) rfl #[.agg #[.slice A1 l2.length c1]] (by rfl) rfl rfl (by (try simp only [List.map_toArray, List.map_cons, List.map_nil]); first | done | rfl) ?_
   with_reducible refine (laws_toProg.calls k _ _ l2 q _ (Kd.C_below CM.out HB_5.out) LM.out Gtoq.out).mono ?_
   rintro e V0n12 ⟨vb, rfl, hS, hb⟩
   refine ⟨_, rfl, ?_⟩
   obtain ⟨Ab, cb, rfl⟩ := Kd.S_slice hS
   have Ra_7 := am_ (Kd.S_below Ra_n.out hb)
   have BL0_7 := am_ (blk_below BL0_5.out hb)
   have BL1_7 := am_ (blk_below BL1_5.out hb)
   have BX_7 := am_ (blk_below BX_5.out hb)
   have HB_7 := am_ (below_then HB_5.out HB_5.out.size hb)
   clear Ra_n BL0_5 BL1_5 BX_5 HB_5
   have Rb_n := am_ hS
   have HVV0n12 : V0.heap.size ≤ V0n12.heap.size := Nat.le_trans VV_v6.out hb.size
   clear hS hb
   have VV_v8 := am_ (show V0.heap.size ≤ V0n12.heap.size from HVV0n12)
   have GL_v8 := am_ (show gx < V0n12.heap.size from blk_lt BX_7.out)
   refine hK.out _ _ ⟨(blk_cell BL0_7.out 0).trans rfl, (blk_cell BL1_7.out 0).trans rfl⟩ (fun hHeld => ?_)
   clear hK K
   refine norm_ (a' := ?_) ?_ ?_
   rotate_left
   ·show Act.put _ (some 31) _ = _
    simp only [Act.put, List.setIfInBounds_toArray, List.set_cons_zero, List.set_cons_succ, i64_w, i32_w]
    rfl
   refine one_ (i := 4) (N := some 32) #[true, true, true, true, true, false, false, false, true, false, false] rfl rfl (one_of HT_.out (by kernel_rfl)) (by decide) (fun K hK => ?_)
   refine goes_ Try.func38 (by kernel_rfl) rfl #[.agg #[.slice Aa p.length ca], .agg #[.slice Ab q.length cb]] (by rfl) rfl rfl (by (try simp only [List.map_toArray, List.map_cons, List.map_nil]); first | done | rfl) ?_
   with_reducible refine (spec_TurnBeside.calls k _ _ p _ _ q want told _ (Kd.S_reads' Ra_7.out).2.2 (Kd.S_reads' Ra_7.out).2.1 (Kd.S_reads' Rb_n.out).2.2 (Kd.S_reads' Rb_n.out).2.1 Gsp.out).mono ?_
   rintro e V0n13 ⟨vc, rfl, hS, hb⟩
   refine ⟨_, rfl, ?_⟩
   obtain ⟨Ac, cc, rfl⟩ := Kd.S_slice hS
   have hle : w.heap.size ≤ V0n12.heap.size := HB_7.out.size
   have hvv : V0.heap.size ≤ V0n12.heap.size := VV_v8.out
   have BL0_9 := am_ (blk_below BL0_7.out hb)
   have BL1_9 := am_ (blk_below BL1_7.out hb)
   have BX_9 := am_ (blk_below BX_7.out hb)
   have HB_9 := am_ (below_then HB_7.out HB_7.out.size hb)
   clear BL0_7 BL1_7 BX_7 HB_7
   have hgl := GL_v8.out
   have Rc_n := am_ (Kd.S_lower (Kd.S_mono (ok' := fun j => V0.heap.size ≤ j ∧ j < V0n13.heap.size ∧ j ≠ gx) (Kd.S_bound hS) (fun j hj => ⟨Nat.le_trans hvv hj.2.1, hj.2.2.1, by have := hj.2.1; omega⟩)) hle)
   clear hS hle hvv hgl
   have VV_v10 := am_ (show V0.heap.size ≤ V0n13.heap.size from Nat.le_trans VV_v8.out hb.size)
   have GL_v10 := am_ (show gx < V0n13.heap.size from blk_lt BX_9.out)
   refine hK.out _ _ ⟨(blk_cell BL0_9.out 0).trans rfl, (blk_cell BL1_9.out 0).trans rfl⟩ (fun hHeld => ?_)
   clear hK K
   refine norm_ (a' := ?_) ?_ ?_
   rotate_left
   ·show Act.put _ (some 32) _ = _
    simp only [Act.put, List.setIfInBounds_toArray, List.set_cons_zero, List.set_cons_succ, i64_w, i32_w]
    rfl
   refine pure_ (i := 5) (N := some 27) (v := ?_) (a' := ?_) #[true, true, true, true, true, true, false, false, true, false, false] rfl rfl (any_of HT_.out (by kernel_rfl)) (fun _ _ _ h => h) (Or.inl ⟨by rfl, ?_⟩) ?_ ?_
   rotate_left
   ·intro w'
    go_simp
    with_reducible rfl
   rotate_left
   ·simp only [Act.put, List.setIfInBounds_toArray, List.set_cons_zero, List.set_cons_succ, i64_w, i32_w]
    rfl
   refine pure_ (i := 6) (N := some 33) (v := ?_) (a' := ?_) #[true, true, true, true, true, true, true, false, true, false, false] rfl rfl (any_of HT_.out (by kernel_rfl)) (fun _ _ _ h => h) (Or.inl ⟨by rfl, ?_⟩) ?_ ?_
   rotate_left
   ·intro w'
    go_simp
    with_reducible rfl
   rotate_left
   ·simp only [Act.put, List.setIfInBounds_toArray, List.set_cons_zero, List.set_cons_succ, i64_w, i32_w]
    rfl
   refine pure_ (i := 7) (N := some 34) (v := ?_) (a' := ?_) #[true, true, true, true, true, true, true, true, true, false, false] rfl rfl (any_of HT_.out (by kernel_rfl)) (fun _ _ _ h => h) (Or.inl ⟨by rfl, ?_⟩) ?_ ?_
   rotate_left
   ·intro w'
    go_simp
    with_reducible rfl
   rotate_left
   ·simp only [Act.put, List.setIfInBounds_toArray, List.set_cons_zero, List.set_cons_succ, i64_w, i32_w]
    rfl
   have zz := hCont (.slice Aa p.length ca, .slice Ab q.length cb, .slice Ac want.length cc, gx) _ ⟨⟨(blk_cell BL0_9.out 0).trans rfl, (blk_cell BL1_9.out 0).trans rfl⟩, BL0_9.out, BL1_9.out, BX_9.out, Rc_n.out, HB_9.out, GX.out, GL_v10.out⟩
   simp only [putAll, Act.put, List.setIfInBounds_toArray, List.set_cons_zero, List.set_cons_succ] at zz
   exact zz
 rintro ⟨va, vb, vc, gw⟩ V1 ⟨-, hBL0, hBL1, hbx, hS, hB, hgx, hgl⟩
 simp only at hbx hS hgx hgl
 obtain ⟨Aw, cw, rfl⟩ := Kd.S_slice hS
 clear BL0_2 BL1_2 HB_2
 refine norm_ (a' := ?_) ?_ ?_
 rotate_left
 ·simp only [putAll, Act.put, List.setIfInBounds_toArray, List.set_cons_zero, List.set_cons_succ, i64_w, i32_w]
  rfl
 refine one_ (i := 9) (N := none) #[true, true, true, true, true, true, true, true, true, true, false] rfl rfl (one_of HT_.out (by kernel_rfl)) (by decide) (fun K hK => ?_)
 have hs18 : V1.cell? ⟨gw, 0, none⟩ = some (.slice none 0 0) := (blk_cell hbx 0).trans rfl
 have hfs18 := blk_frozen hbx 0
 refine skip_ (w1 := ?_) (by rfl) rfl ?_ ?_
 rotate_left
 ·go_simp
  rfl
 clear hs18 hfs18
 have BL0_sw := am_ (blk_far hBL0 (p := ⟨gw, 0, none⟩) (by have := NL0V0.out; show w.heap.size ≠ gw; omega) (.slice Aw want.length cw))
 have BL1_sw := am_ (blk_far hBL1 (p := ⟨gw, 0, none⟩) (by have := NL1V0.out; show w.heap.size + 1 ≠ gw; omega) (.slice Aw want.length cw))
 have Rw_sw := am_ (Kd.S_set hS hbx (by decide) 0 (.slice Aw want.length cw))
 have Bw_sw := am_ (blk_set hbx 0 (.slice Aw want.length cw))
 have HB_sw := am_ (below_set (g := gw) (j := 0) (v := .slice Aw want.length cw) hB (by have := QV0.out; omega))
 have hz : (V1.setCell ⟨gw, 0, none⟩ (.slice Aw want.length cw)).heap.size = V1.heap.size := World.size_setCell _ _ _
 clear hbx hS hB hBL0 hBL1
 refine hK.out _ _ ⟨(blk_cell BL0_sw.out 0).trans rfl, (blk_cell BL1_sw.out 0).trans rfl⟩ (fun hHeld => ?_)
 clear hK K
 refine pure_ (i := 10) (N := some 7) (v := ?_) (a' := ?_) #[true, true, true, true, true, true, true, true, true, true, true] rfl rfl (any_of HT_.out (by kernel_rfl)) (fun _ _ _ h => h) (Or.inl ⟨by rfl, ?_⟩) ?_ ?_
 rotate_left
 ·intro w'
  go_simp
  with_reducible rfl
 rotate_left
 ·simp only [Act.put, List.setIfInBounds_toArray, List.set_cons_zero, List.set_cons_succ, i64_w, i32_w]
  rfl
 refine done_ (done_of HT_.out (by kernel_rfl)) ?_
 clear HT_ HW_ hHeld
 generalize V1.setCell ⟨gw, 0, none⟩ (.slice Aw want.length cw) = V1s at *
 have Rw_tw := am_ (Kd.S_mono (ok' := fun j => V0.heap.size ≤ j ∧ j < V1s.heap.size ∧ j ≠ gw) Rw_sw.out (fun j hj => ⟨hj.1, by have := hj.2.1; omega, hj.2.2⟩))
 clear Rw_sw
 have NGw := am_ (show V0.heap.size ≤ gw ∧ gw < V1s.heap.size from ⟨hgx, by omega⟩)
 clear hgx hgl hz
 have QV1s := am_ (show w.heap.size ≤ V1s.heap.size from HB_sw.out.size)
 have hl0 : V1s.cell? ⟨w.heap.size, 0, none⟩ = some (.slice A0 l.length c0) := (blk_cell BL0_sw.out 0).trans rfl
 go_wp2_with (go_at_call 45; refine park ?_)
 clear hl0
 refine ⟨?_⟩
 refine (laws_toProg.calls k _ _ l p _ (Kd.C_below CL.out HB_sw.out) LL.out Gto.out).mono ?_
 rintro e V2 ⟨vx, rfl, hS, hb⟩
 obtain ⟨Ax, cx, rfl⟩ := Kd.S_slice hS
 have Rw_3 := am_ (Kd.S_below Rw_tw.out hb)
 have BL0_3 := am_ (blk_below BL0_sw.out hb)
 have BL1_3 := am_ (blk_below BL1_sw.out hb)
 have Bw_3 := am_ (blk_below Bw_sw.out hb)
 have HB_3 := am_ (below_then HB_sw.out HB_sw.out.size hb)
 clear Rw_tw BL0_sw BL1_sw Bw_sw HB_sw
 have Rx_n := am_ (Kd.S_lower (Kd.S_mono (ok' := fun j => V1s.heap.size ≤ j ∧ j < V2.heap.size) (Kd.S_bound hS) (fun j hj => ⟨hj.2.1, hj.2.2.1⟩)) (show w.heap.size ≤ V1s.heap.size from QV1s.out))
 have QV2 := am_ (show w.heap.size ≤ V2.heap.size from HB_3.out.size)
 have ZV2 := am_ (show V1s.heap.size ≤ V2.heap.size from hb.size)
 clear hS hb
 have Bx_n := am_ (heap_alloc_new V2 (Obj.cells #[.slice Ax p.length cx] 35))
 have hb := below_alloc (Below.refl V2.heap.size V2) (Obj.cells #[.slice Ax p.length cx] 35)
 have eqs : (V2.alloc (Obj.cells #[.slice Ax p.length cx] 35)).heap.size = V2.heap.size + 1 := World.size_alloc _ _
 have Rw_4 := am_ (Kd.S_below Rw_3.out hb)
 have Rx_4 := am_ (Kd.S_below Rx_n.out hb)
 have BL0_4 := am_ (blk_below BL0_3.out hb)
 have BL1_4 := am_ (blk_below BL1_3.out hb)
 have Bw_4 := am_ (blk_below Bw_3.out hb)
 have HB_4 := am_ (below_then HB_3.out HB_3.out.size hb)
 clear Rw_3 Rx_n BL0_3 BL1_3 Bw_3 HB_3 hb
 have hl0 : (V2.alloc (Obj.cells #[.slice Ax p.length cx] 35)).cell? ⟨w.heap.size + 1, 0, none⟩ = some (.slice A1 l2.length c1) := (blk_cell BL1_4.out 0).trans rfl
 go_wp2_with (go_at_call 45; refine park ?_)
 clear hl0
 refine ⟨?_⟩
 generalize V2.heap.size = gx at *
 generalize (V2.alloc (Obj.cells #[.slice Ax p.length cx] 35)) = V3a at *
 have QV3a := am_ (show w.heap.size ≤ V3a.heap.size from HB_4.out.size)
 have ZV3a := am_ (show V3a.heap.size = gx + 1 from eqs)
 clear eqs
 refine (laws_toProg.calls k _ _ l2 q _ (Kd.C_below CM.out HB_4.out) LM.out Gtoq.out).mono ?_
 rintro e V3 ⟨vz, rfl, hS, hb⟩
 obtain ⟨Az, cz, rfl⟩ := Kd.S_slice hS
 have Rw_5 := am_ (Kd.S_below Rw_4.out hb)
 have Rx_5 := am_ (Kd.S_below Rx_4.out hb)
 have BL0_5 := am_ (blk_below BL0_4.out hb)
 have BL1_5 := am_ (blk_below BL1_4.out hb)
 have Bw_5 := am_ (blk_below Bw_4.out hb)
 have Bx_5 := am_ (blk_below Bx_n.out hb)
 have HB_5 := am_ (below_then HB_4.out HB_4.out.size hb)
 clear Rw_4 Rx_4 BL0_4 BL1_4 Bw_4 Bx_n HB_4
 have Rz_n := am_ (Kd.S_lower (Kd.S_mono (ok' := fun j => V3a.heap.size ≤ j ∧ j < V3.heap.size) (Kd.S_bound hS) (fun j hj => ⟨hj.2.1, hj.2.2.1⟩)) (show w.heap.size ≤ V3a.heap.size from QV3a.out))
 have QV3 := am_ (show w.heap.size ≤ V3.heap.size from HB_5.out.size)
 have ZV3 := am_ (show V3a.heap.size ≤ V3.heap.size from hb.size)
 clear hS hb
 have Bz_n := am_ (heap_alloc_new V3 (Obj.cells #[.slice Az q.length cz] 35))
 have hb := below_alloc (Below.refl V3.heap.size V3) (Obj.cells #[.slice Az q.length cz] 35)
 have eqs : (V3.alloc (Obj.cells #[.slice Az q.length cz] 35)).heap.size = V3.heap.size + 1 := World.size_alloc _ _
 have Rw_6 := am_ (Kd.S_below Rw_5.out hb)
 have Rx_6 := am_ (Kd.S_below Rx_5.out hb)
 have Rz_6 := am_ (Kd.S_below Rz_n.out hb)
 have BL0_6 := am_ (blk_below BL0_5.out hb)
 have BL1_6 := am_ (blk_below BL1_5.out hb)
 have Bw_6 := am_ (blk_below Bw_5.out hb)
 have Bx_6 := am_ (blk_below Bx_5.out hb)
 have HB_6 := am_ (below_then HB_5.out HB_5.out.size hb)
 clear Rw_5 Rx_5 Rz_n BL0_5 BL1_5 Bw_5 Bx_5 HB_5 hb
 have hl0 : (V3.alloc (Obj.cells #[.slice Az q.length cz] 35)).cell? ⟨gx, 0, none⟩ = some (.slice Ax p.length cx) := (blk_cell Bx_6.out 0).trans rfl
 have hl1 : (V3.alloc (Obj.cells #[.slice Az q.length cz] 35)).cell? ⟨V3.heap.size, 0, none⟩ = some (.slice Az q.length cz) := (blk_cell Bz_n.out 0).trans rfl
 go_wp2_with (go_at_call 39; refine park ?_)
 clear hl0 hl1
 refine ⟨?_⟩
 generalize V3.heap.size = gz at *
 generalize (V3.alloc (Obj.cells #[.slice Az q.length cz] 35)) = V4a at *
 have QV4a := am_ (show w.heap.size ≤ V4a.heap.size from HB_6.out.size)
 have ZV4a := am_ (show V4a.heap.size = gz + 1 from eqs)
 clear eqs
 refine (impl_TurnBeside.calls k _ _ p _ _ q want told _ (Kd.S_reads' Rx_6.out).2.2 (Kd.S_reads' Rx_6.out).2.1 (Kd.S_reads' Rz_6.out).2.2 (Kd.S_reads' Rz_6.out).2.1 Gim.out).mono ?_
 rintro e V4 ⟨vg, rfl, hS, hb⟩
 obtain ⟨Ag, cg, rfl⟩ := Kd.S_slice hS
 have Rw_7 := am_ (Kd.S_below Rw_6.out hb)
 have Rx_7 := am_ (Kd.S_below Rx_6.out hb)
 have Rz_7 := am_ (Kd.S_below Rz_6.out hb)
 have BL0_7 := am_ (blk_below BL0_6.out hb)
 have BL1_7 := am_ (blk_below BL1_6.out hb)
 have Bw_7 := am_ (blk_below Bw_6.out hb)
 have Bx_7 := am_ (blk_below Bx_6.out hb)
 have Bz_7 := am_ (blk_below Bz_n.out hb)
 have HB_7 := am_ (below_then HB_6.out HB_6.out.size hb)
 clear Rw_6 Rx_6 Rz_6 BL0_6 BL1_6 Bw_6 Bx_6 Bz_n HB_6
 have Rg_n := am_ (Kd.S_lower (Kd.S_mono (ok' := fun j => V4a.heap.size ≤ j ∧ j < V4.heap.size) (Kd.S_bound hS) (fun j hj => ⟨hj.2.1, hj.2.2.1⟩)) (show w.heap.size ≤ V4a.heap.size from QV4a.out))
 have QV4 := am_ (show w.heap.size ≤ V4.heap.size from HB_7.out.size)
 have ZV4 := am_ (show V4a.heap.size ≤ V4.heap.size from hb.size)
 clear hS hb
 have Bg_n := am_ (heap_alloc_new V4 (Obj.cells #[.slice Ag want.length cg] 35))
 have hb := below_alloc (Below.refl V4.heap.size V4) (Obj.cells #[.slice Ag want.length cg] 35)
 have eqs : (V4.alloc (Obj.cells #[.slice Ag want.length cg] 35)).heap.size = V4.heap.size + 1 := World.size_alloc _ _
 have Rw_8 := am_ (Kd.S_below Rw_7.out hb)
 have Rx_8 := am_ (Kd.S_below Rx_7.out hb)
 have Rz_8 := am_ (Kd.S_below Rz_7.out hb)
 have Rg_8 := am_ (Kd.S_below Rg_n.out hb)
 have BL0_8 := am_ (blk_below BL0_7.out hb)
 have BL1_8 := am_ (blk_below BL1_7.out hb)
 have Bw_8 := am_ (blk_below Bw_7.out hb)
 have Bx_8 := am_ (blk_below Bx_7.out hb)
 have Bz_8 := am_ (blk_below Bz_7.out hb)
 have HB_8 := am_ (below_then HB_7.out HB_7.out.size hb)
 clear Rw_7 Rx_7 Rz_7 Rg_n BL0_7 BL1_7 Bw_7 Bx_7 Bz_7 HB_7 hb
 have hl0 : (V4.alloc (Obj.cells #[.slice Ag want.length cg] 35)).cell? ⟨V4.heap.size, 0, none⟩ = some (.slice Ag want.length cg) := (blk_cell Bg_n.out 0).trans rfl
 have hl1 : (V4.alloc (Obj.cells #[.slice Ag want.length cg] 35)).cell? ⟨gw, 0, none⟩ = some (.slice Aw want.length cw) := (blk_cell Bw_8.out 0).trans rfl
 go_wp2_with (go_at_call 32; refine park ?_)
 clear hl0 hl1
 refine ⟨?_⟩
 generalize V4.heap.size = gg at *
 generalize (V4.alloc (Obj.cells #[.slice Ag want.length cg] 35)) = V5a at *
 have QV5a := am_ (show w.heap.size ≤ V5a.heap.size from HB_8.out.size)
 have ZV5a := am_ (show V5a.heap.size = gg + 1 from eqs)
 clear eqs
 refine (laws_eqProg.calls k _ _ want _ _ want true _ (Kd.S_reads' Rg_8.out).2.2 (Kd.S_reads' Rg_8.out).2.1 (Kd.S_reads' Rw_8.out).2.2 (Kd.S_reads' Rw_8.out).2.1 Geqw.out).mono ?_
 rintro e V5 ⟨rfl, hb⟩
 have Rw_9 := am_ (Kd.S_below Rw_8.out hb)
 have Rx_9 := am_ (Kd.S_below Rx_8.out hb)
 have Rz_9 := am_ (Kd.S_below Rz_8.out hb)
 have Rg_9 := am_ (Kd.S_below Rg_8.out hb)
 have BL0_9 := am_ (blk_below BL0_8.out hb)
 have BL1_9 := am_ (blk_below BL1_8.out hb)
 have Bw_9 := am_ (blk_below Bw_8.out hb)
 have Bx_9 := am_ (blk_below Bx_8.out hb)
 have Bz_9 := am_ (blk_below Bz_8.out hb)
 have Bg_9 := am_ (blk_below Bg_n.out hb)
 have HB_9 := am_ (below_then HB_8.out HB_8.out.size hb)
 clear Rw_8 Rx_8 Rz_8 Rg_8 BL0_8 BL1_8 Bw_8 Bx_8 Bz_8 Bg_n HB_8 hb
 go_wp2_with fail
 have hb := below_drew (Below.refl V5.heap.size V5)
 have Rw_10 := am_ (Kd.S_below Rw_9.out hb)
 have Rx_10 := am_ (Kd.S_below Rx_9.out hb)
 have Rz_10 := am_ (Kd.S_below Rz_9.out hb)
 have Rg_10 := am_ (Kd.S_below Rg_9.out hb)
 have BL0_10 := am_ (blk_below BL0_9.out hb)
 have BL1_10 := am_ (blk_below BL1_9.out hb)
 have Bw_10 := am_ (blk_below Bw_9.out hb)
 have Bx_10 := am_ (blk_below Bx_9.out hb)
 have Bz_10 := am_ (blk_below Bz_9.out hb)
 have Bg_10 := am_ (blk_below Bg_9.out hb)
 have HB_10 := am_ (below_then HB_9.out HB_9.out.size hb)
 clear Rw_9 Rx_9 Rz_9 Rg_9 BL0_9 BL1_9 Bw_9 Bx_9 Bz_9 Bg_9 HB_9 hb
 refine start_ (n := 5) (S := fun w' => w'.cell? ⟨gx, 0, none⟩ = some (.slice Ax p.length cx) ∧ w'.cell? ⟨w.heap.size, 0, none⟩ = some (.slice A0 l.length c0)) (ds := []) #[false, false, false, false, false] (by kernel_rfl) rfl rfl ⟨(blk_cell Bx_10.out 0).trans rfl, (blk_cell BL0_10.out 0).trans rfl⟩ (fun hHeld => ?_)
 refine with_tabW laws_FnExactTurnBeside.tab14 laws_FnExactTurnBeside.bits14 (fun HT_ HW_ => ?_)
 generalize V5.drew = V6 at *
 refine take_ (i := 0) (N := some 54) (v := ?_) (a' := ?_) #[true, false, false, false, false] rfl rfl (take_ofW HT_.out HW_.out (by kernel_rfl)) (fun _ _ _ h => h) (Or.inl ⟨by rfl, ?_⟩) hHeld ?_ ?_
 rotate_left
 ·intro w' s0
  have s1 := s0.1
  go_simp
  with_reducible rfl
 rotate_left
 ·simp only [Act.put, List.setIfInBounds_toArray, List.set_cons_zero, List.set_cons_succ, i64_w, i32_w]
  rfl
 refine take_ (i := 1) (N := some 55) (v := ?_) (a' := ?_) #[true, true, false, false, false] rfl rfl (take_ofW HT_.out HW_.out (by kernel_rfl)) (fun _ _ _ h => h) (Or.inl ⟨by rfl, ?_⟩) hHeld ?_ ?_
 rotate_left
 ·intro w' s0
  have s1 := s0.2
  go_simp
  with_reducible rfl
 rotate_left
 ·simp only [Act.put, List.setIfInBounds_toArray, List.set_cons_zero, List.set_cons_succ, i64_w, i32_w]
  rfl
 refine one_ (i := 2) (N := some 56) #[true, true, true, false, false] rfl rfl (one_of HT_.out (by kernel_rfl)) (by decide) (fun K hK => ?_)
 refine goes_ Try.func45 (by kernel_rfl) rfl #[.agg #[.slice A0 l.length c0]] (by rfl) rfl rfl (by (try simp only [List.map_toArray, List.map_cons, List.map_nil]); first | done | rfl) ?_
 with_reducible refine (laws_toProg.calls k _ _ l p _ (Kd.C_below CL.out HB_10.out) LL.out Gto.out).mono ?_
 rintro e V7 ⟨vu, rfl, hS, hb⟩
 refine ⟨_, rfl, ?_⟩
 obtain ⟨Au, cu, rfl⟩ := Kd.S_slice hS
 have QV6 := am_ (show w.heap.size ≤ V6.heap.size from HB_10.out.size)
 have Rw_11 := am_ (Kd.S_below Rw_10.out hb)
 have Rx_11 := am_ (Kd.S_below Rx_10.out hb)
 have Rz_11 := am_ (Kd.S_below Rz_10.out hb)
 have Rg_11 := am_ (Kd.S_below Rg_10.out hb)
 have BL0_11 := am_ (blk_below BL0_10.out hb)
 have BL1_11 := am_ (blk_below BL1_10.out hb)
 have Bw_11 := am_ (blk_below Bw_10.out hb)
 have Bx_11 := am_ (blk_below Bx_10.out hb)
 have Bz_11 := am_ (blk_below Bz_10.out hb)
 have Bg_11 := am_ (blk_below Bg_10.out hb)
 have HB_11 := am_ (below_then HB_10.out HB_10.out.size hb)
 clear Rw_10 Rx_10 Rz_10 Rg_10 BL0_10 BL1_10 Bw_10 Bx_10 Bz_10 Bg_10 HB_10
 have Ru_n := am_ (Kd.S_lower (Kd.S_mono (ok' := fun j => V6.heap.size ≤ j ∧ j < V7.heap.size) (Kd.S_bound hS) (fun j hj => ⟨hj.2.1, hj.2.2.1⟩)) (show w.heap.size ≤ V6.heap.size from QV6.out))
 have QV7 := am_ (show w.heap.size ≤ V7.heap.size from HB_11.out.size)
 have ZV7 := am_ (show V6.heap.size ≤ V7.heap.size from hb.size)
 clear hS hb
 refine hK.out _ _ ⟨(blk_cell Bx_11.out 0).trans rfl, (blk_cell BL0_11.out 0).trans rfl⟩ (fun hHeld => ?_)
 clear hK K
 refine norm_ (a' := ?_) ?_ ?_
 rotate_left
 ·show Act.put _ (some 56) _ = _
  simp only [Act.put, List.setIfInBounds_toArray, List.set_cons_zero, List.set_cons_succ, i64_w, i32_w]
  rfl
 refine one_ (i := 3) (N := some 57) #[true, true, true, true, false] rfl rfl (one_of HT_.out (by kernel_rfl)) (by decide) (fun K hK => ?_)
 refine goes_ Try.func32 (by kernel_rfl) rfl #[.agg #[.slice Ax p.length cx], .agg #[.slice Au p.length cu]] (by rfl) rfl rfl (by (try simp only [List.map_toArray, List.map_cons, List.map_nil]); first | done | rfl) ?_
 with_reducible refine (laws_eqProg.calls k _ _ p _ _ p true _ (Kd.S_reads' Rx_11.out).2.2 (Kd.S_reads' Rx_11.out).2.1 (Kd.S_reads' Ru_n.out).2.2 (Kd.S_reads' Ru_n.out).2.1 Geqp.out).mono ?_
 rintro e V8 ⟨rfl, hb⟩
 refine ⟨_, rfl, ?_⟩
 have Rw_12 := am_ (Kd.S_below Rw_11.out hb)
 have Rx_12 := am_ (Kd.S_below Rx_11.out hb)
 have Rz_12 := am_ (Kd.S_below Rz_11.out hb)
 have Rg_12 := am_ (Kd.S_below Rg_11.out hb)
 have Ru_12 := am_ (Kd.S_below Ru_n.out hb)
 have BL0_12 := am_ (blk_below BL0_11.out hb)
 have BL1_12 := am_ (blk_below BL1_11.out hb)
 have Bw_12 := am_ (blk_below Bw_11.out hb)
 have Bx_12 := am_ (blk_below Bx_11.out hb)
 have Bz_12 := am_ (blk_below Bz_11.out hb)
 have Bg_12 := am_ (blk_below Bg_11.out hb)
 have HB_12 := am_ (below_then HB_11.out HB_11.out.size hb)
 clear Rw_11 Rx_11 Rz_11 Rg_11 Ru_n BL0_11 BL1_11 Bw_11 Bx_11 Bz_11 Bg_11 HB_11 hb
 refine hK.out _ _ ⟨(blk_cell Bx_12.out 0).trans rfl, (blk_cell BL0_12.out 0).trans rfl⟩ (fun hHeld => ?_)
 clear hK K
 refine norm_ (a' := ?_) ?_ ?_
 rotate_left
 ·show Act.put _ (some 57) _ = _
  simp only [Act.put, List.setIfInBounds_toArray, List.set_cons_zero, List.set_cons_succ, i64_w, i32_w]
  rfl
 refine pure_ (i := 4) (N := some 58) (v := ?_) (a' := ?_) #[true, true, true, true, true] rfl rfl (any_of HT_.out (by kernel_rfl)) (fun _ _ _ h => h) (Or.inl ⟨by rfl, ?_⟩) ?_ ?_
 rotate_left
 ·intro w'
  go_simp
  with_reducible rfl
 rotate_left
 ·simp only [Act.put, List.setIfInBounds_toArray, List.set_cons_zero, List.set_cons_succ, i64_w, i32_w]
  rfl
 refine done_ (done_of HT_.out (by kernel_rfl)) ?_
 clear HT_ HW_ hHeld
 go_wp2_with fail
 have hb := below_drew (Below.refl V8.heap.size V8)
 have Rw_13 := am_ (Kd.S_below Rw_12.out hb)
 have Rx_13 := am_ (Kd.S_below Rx_12.out hb)
 have Rz_13 := am_ (Kd.S_below Rz_12.out hb)
 have Rg_13 := am_ (Kd.S_below Rg_12.out hb)
 have BL0_13 := am_ (blk_below BL0_12.out hb)
 have BL1_13 := am_ (blk_below BL1_12.out hb)
 have Bw_13 := am_ (blk_below Bw_12.out hb)
 have Bx_13 := am_ (blk_below Bx_12.out hb)
 have Bz_13 := am_ (blk_below Bz_12.out hb)
 have Bg_13 := am_ (blk_below Bg_12.out hb)
 have HB_13 := am_ (below_then HB_12.out HB_12.out.size hb)
 clear Rw_12 Rx_12 Rz_12 Rg_12 BL0_12 BL1_12 Bw_12 Bx_12 Bz_12 Bg_12 HB_12 hb
 refine start_ (n := 5) (S := fun w' => w'.cell? ⟨gz, 0, none⟩ = some (.slice Az q.length cz) ∧ w'.cell? ⟨w.heap.size + 1, 0, none⟩ = some (.slice A1 l2.length c1)) (ds := []) #[false, false, false, false, false] (by kernel_rfl) rfl rfl ⟨(blk_cell Bz_13.out 0).trans rfl, (blk_cell BL1_13.out 0).trans rfl⟩ (fun hHeld => ?_)
 refine with_tabW laws_FnExactTurnBeside.tab16 laws_FnExactTurnBeside.bits16 (fun HT_ HW_ => ?_)
 generalize V8.drew = V9 at *
 refine take_ (i := 0) (N := some 59) (v := ?_) (a' := ?_) #[true, false, false, false, false] rfl rfl (take_ofW HT_.out HW_.out (by kernel_rfl)) (fun _ _ _ h => h) (Or.inl ⟨by rfl, ?_⟩) hHeld ?_ ?_
 rotate_left
 ·intro w' s0
  have s1 := s0.1
  go_simp
  with_reducible rfl
 rotate_left
 ·simp only [Act.put, List.setIfInBounds_toArray, List.set_cons_zero, List.set_cons_succ, i64_w, i32_w]
  rfl
 refine take_ (i := 1) (N := some 60) (v := ?_) (a' := ?_) #[true, true, false, false, false] rfl rfl (take_ofW HT_.out HW_.out (by kernel_rfl)) (fun _ _ _ h => h) (Or.inl ⟨by rfl, ?_⟩) hHeld ?_ ?_
 rotate_left
 ·intro w' s0
  have s1 := s0.2
  go_simp
  with_reducible rfl
 rotate_left
 ·simp only [Act.put, List.setIfInBounds_toArray, List.set_cons_zero, List.set_cons_succ, i64_w, i32_w]
  rfl
 refine one_ (i := 2) (N := some 61) #[true, true, true, false, false] rfl rfl (one_of HT_.out (by kernel_rfl)) (by decide) (fun K hK => ?_)
 refine goes_ Try.func45 (by kernel_rfl) rfl #[.agg #[.slice A1 l2.length c1]] (by rfl) rfl rfl (by (try simp only [List.map_toArray, List.map_cons, List.map_nil]); first | done | rfl) ?_
 with_reducible refine (laws_toProg.calls k _ _ l2 q _ (Kd.C_below CM.out HB_13.out) LM.out Gtoq.out).mono ?_
 rintro e V10 ⟨vu, rfl, hS, hb⟩
 refine ⟨_, rfl, ?_⟩
 obtain ⟨Au, cu, rfl⟩ := Kd.S_slice hS
 have QV9 := am_ (show w.heap.size ≤ V9.heap.size from HB_13.out.size)
 have Rw_14 := am_ (Kd.S_below Rw_13.out hb)
 have Rx_14 := am_ (Kd.S_below Rx_13.out hb)
 have Rz_14 := am_ (Kd.S_below Rz_13.out hb)
 have Rg_14 := am_ (Kd.S_below Rg_13.out hb)
 have BL0_14 := am_ (blk_below BL0_13.out hb)
 have BL1_14 := am_ (blk_below BL1_13.out hb)
 have Bw_14 := am_ (blk_below Bw_13.out hb)
 have Bx_14 := am_ (blk_below Bx_13.out hb)
 have Bz_14 := am_ (blk_below Bz_13.out hb)
 have Bg_14 := am_ (blk_below Bg_13.out hb)
 have HB_14 := am_ (below_then HB_13.out HB_13.out.size hb)
 clear Rw_13 Rx_13 Rz_13 Rg_13 BL0_13 BL1_13 Bw_13 Bx_13 Bz_13 Bg_13 HB_13
 have Ru_n := am_ (Kd.S_lower (Kd.S_mono (ok' := fun j => V9.heap.size ≤ j ∧ j < V10.heap.size) (Kd.S_bound hS) (fun j hj => ⟨hj.2.1, hj.2.2.1⟩)) (show w.heap.size ≤ V9.heap.size from QV9.out))
 have QV10 := am_ (show w.heap.size ≤ V10.heap.size from HB_14.out.size)
 have ZV10 := am_ (show V9.heap.size ≤ V10.heap.size from hb.size)
 clear hS hb
 refine hK.out _ _ ⟨(blk_cell Bz_14.out 0).trans rfl, (blk_cell BL1_14.out 0).trans rfl⟩ (fun hHeld => ?_)
 clear hK K
 refine norm_ (a' := ?_) ?_ ?_
 rotate_left
 ·show Act.put _ (some 61) _ = _
  simp only [Act.put, List.setIfInBounds_toArray, List.set_cons_zero, List.set_cons_succ, i64_w, i32_w]
  rfl
 refine one_ (i := 3) (N := some 62) #[true, true, true, true, false] rfl rfl (one_of HT_.out (by kernel_rfl)) (by decide) (fun K hK => ?_)
 refine goes_ Try.func32 (by kernel_rfl) rfl #[.agg #[.slice Az q.length cz], .agg #[.slice Au q.length cu]] (by rfl) rfl rfl (by (try simp only [List.map_toArray, List.map_cons, List.map_nil]); first | done | rfl) ?_
 with_reducible refine (laws_eqProg.calls k _ _ q _ _ q true _ (Kd.S_reads' Rz_14.out).2.2 (Kd.S_reads' Rz_14.out).2.1 (Kd.S_reads' Ru_n.out).2.2 (Kd.S_reads' Ru_n.out).2.1 Geqq.out).mono ?_
 rintro e V11 ⟨rfl, hb⟩
 refine ⟨_, rfl, ?_⟩
 have Rw_15 := am_ (Kd.S_below Rw_14.out hb)
 have Rx_15 := am_ (Kd.S_below Rx_14.out hb)
 have Rz_15 := am_ (Kd.S_below Rz_14.out hb)
 have Rg_15 := am_ (Kd.S_below Rg_14.out hb)
 have Ru_15 := am_ (Kd.S_below Ru_n.out hb)
 have BL0_15 := am_ (blk_below BL0_14.out hb)
 have BL1_15 := am_ (blk_below BL1_14.out hb)
 have Bw_15 := am_ (blk_below Bw_14.out hb)
 have Bx_15 := am_ (blk_below Bx_14.out hb)
 have Bz_15 := am_ (blk_below Bz_14.out hb)
 have Bg_15 := am_ (blk_below Bg_14.out hb)
 have HB_15 := am_ (below_then HB_14.out HB_14.out.size hb)
 clear Rw_14 Rx_14 Rz_14 Rg_14 Ru_n BL0_14 BL1_14 Bw_14 Bx_14 Bz_14 Bg_14 HB_14 hb
 refine hK.out _ _ ⟨(blk_cell Bz_15.out 0).trans rfl, (blk_cell BL1_15.out 0).trans rfl⟩ (fun hHeld => ?_)
 clear hK K
 refine norm_ (a' := ?_) ?_ ?_
 rotate_left
 ·show Act.put _ (some 62) _ = _
  simp only [Act.put, List.setIfInBounds_toArray, List.set_cons_zero, List.set_cons_succ, i64_w, i32_w]
  rfl
 refine pure_ (i := 4) (N := some 63) (v := ?_) (a' := ?_) #[true, true, true, true, true] rfl rfl (any_of HT_.out (by kernel_rfl)) (fun _ _ _ h => h) (Or.inl ⟨by rfl, ?_⟩) ?_ ?_
 rotate_left
 ·intro w'
  go_simp
  with_reducible rfl
 rotate_left
 ·simp only [Act.put, List.setIfInBounds_toArray, List.set_cons_zero, List.set_cons_succ, i64_w, i32_w]
  rfl
 refine done_ (done_of HT_.out (by kernel_rfl)) ?_
 clear HT_ HW_ hHeld
 have NUM := am_ (show w.heap.size + 1 < V0.heap.size ∧ V0.heap.size ≤ gw ∧ gw < V1s.heap.size ∧ V1s.heap.size ≤ gx ∧ gx + 1 = V3a.heap.size ∧ V3a.heap.size ≤ gz ∧ gz + 1 = V4a.heap.size ∧ V4a.heap.size ≤ gg from by
  have h1 := NL1V0.out; have h2 := NGw.out; have h3 := ZV2.out; have h4 := ZV3a.out; have h5 := ZV3.out; have h6 := ZV4a.out; have h7 := ZV4.out
  omega)
 have hl0 : V11.cell? ⟨gx, 0, none⟩ = some (.slice Ax p.length cx) := (blk_cell Bx_15.out 0).trans rfl
 go_wp2_with (go_at_call 33; refine park ?_)
 clear hl0
 refine ⟨?_⟩
 have QV11 := am_ (show w.heap.size ≤ V11.heap.size from HB_15.out.size)
 refine (laws_markProg.calls k (fun j => V1s.heap.size ≤ j ∧ j < gx) _ p 1 k1 p1 w _ HB_15.out Rx_15.out Gmk.out).mono ?_
 rintro e V12 ⟨rfl, hS, hb, hk⟩
 have hn := NUM.out
 have Rw_16 := am_ (Kd.S_step Rw_15.out (fun j hj hlt => hk.2 j hlt (fun h2 => by omega)))
 have Rx_16 := am_ hS
 have Rz_16 := am_ (Kd.S_step Rz_15.out (fun j hj hlt => hk.2 j hlt (fun h2 => by omega)))
 have Rg_16 := am_ (Kd.S_step Rg_15.out (fun j hj hlt => hk.2 j hlt (fun h2 => by omega)))
 have BL0_16 := am_ ((hk.2 (w.heap.size) (blk_lt BL0_15.out) (fun h2 => by omega)).trans BL0_15.out)
 have BL1_16 := am_ ((hk.2 (w.heap.size + 1) (blk_lt BL1_15.out) (fun h2 => by omega)).trans BL1_15.out)
 have Bw_16 := am_ ((hk.2 (gw) (blk_lt Bw_15.out) (fun h2 => by omega)).trans Bw_15.out)
 have Bx_16 := am_ ((hk.2 (gx) (blk_lt Bx_15.out) (fun h2 => by omega)).trans Bx_15.out)
 have Bz_16 := am_ ((hk.2 (gz) (blk_lt Bz_15.out) (fun h2 => by omega)).trans Bz_15.out)
 have Bg_16 := am_ ((hk.2 (gg) (blk_lt Bg_15.out) (fun h2 => by omega)).trans Bg_15.out)
 have HB_16 := am_ hb
 clear Rw_15 Rx_15 Rz_15 Rg_15 BL0_15 BL1_15 Bw_15 Bx_15 Bz_15 Bg_15 HB_15 hS hb hk hn
 have hl0 : V12.cell? ⟨gz, 0, none⟩ = some (.slice Az q.length cz) := (blk_cell Bz_16.out 0).trans rfl
 go_wp2_with (go_at_call 33; refine park ?_)
 clear hl0
 refine ⟨?_⟩
 have QV12 := am_ (show w.heap.size ≤ V12.heap.size from HB_16.out.size)
 refine (laws_markProg.calls k (fun j => V3a.heap.size ≤ j ∧ j < gz) _ q k1 k2 q1 w _ HB_16.out Rz_16.out Gmkq.out).mono ?_
 rintro e V13 ⟨rfl, hS, hb, hk⟩
 have hn := NUM.out
 have Rw_17 := am_ (Kd.S_step Rw_16.out (fun j hj hlt => hk.2 j hlt (fun h2 => by omega)))
 have Rz_17 := am_ hS
 have Rg_17 := am_ (Kd.S_step Rg_16.out (fun j hj hlt => hk.2 j hlt (fun h2 => by omega)))
 have BL0_17 := am_ ((hk.2 (w.heap.size) (blk_lt BL0_16.out) (fun h2 => by omega)).trans BL0_16.out)
 have BL1_17 := am_ ((hk.2 (w.heap.size + 1) (blk_lt BL1_16.out) (fun h2 => by omega)).trans BL1_16.out)
 have Bw_17 := am_ ((hk.2 (gw) (blk_lt Bw_16.out) (fun h2 => by omega)).trans Bw_16.out)
 have Bx_17 := am_ ((hk.2 (gx) (blk_lt Bx_16.out) (fun h2 => by omega)).trans Bx_16.out)
 have Bz_17 := am_ ((hk.2 (gz) (blk_lt Bz_16.out) (fun h2 => by omega)).trans Bz_16.out)
 have Bg_17 := am_ ((hk.2 (gg) (blk_lt Bg_16.out) (fun h2 => by omega)).trans Bg_16.out)
 have HB_17 := am_ hb
 clear Rw_16 Rz_16 Rg_16 BL0_16 BL1_16 Bw_16 Bx_16 Bz_16 Bg_16 HB_16 hS hb hk hn
 have hk2 : decide (k2 < 0) = false := decide_eq_false (by have := Gk2.out; omega)
 have hm1 : decide (m < 0) = false := decide_eq_false (by have := Gm0.out; omega)
 have hmm : (m != m) = false := by simp
 have hl0 : V13.cell? ⟨gg, 0, none⟩ = some (.slice Ag want.length cg) := (blk_cell Bg_17.out 0).trans rfl
 have hl1 : V13.cell? ⟨gw, 0, none⟩ = some (.slice Aw want.length cw) := (blk_cell Bw_17.out 0).trans rfl
 go_wp2_with (go_at_call 32; refine park ?_)
 clear hl0 hl1
 refine ⟨?_⟩
 have QV13 := am_ (show w.heap.size ≤ V13.heap.size from HB_17.out.size)
 refine (laws_eqProg.calls k _ _ want _ _ want true _ (Kd.S_reads' Rg_17.out).2.2 (Kd.S_reads' Rg_17.out).2.1 (Kd.S_reads' Rw_17.out).2.2 (Kd.S_reads' Rw_17.out).2.1 Geqw.out).mono ?_
 rintro e V14 ⟨rfl, hb⟩
 have Rw_18 := am_ (Kd.S_below Rw_17.out hb)
 have Rg_18 := am_ (Kd.S_below Rg_17.out hb)
 have BL0_18 := am_ (blk_below BL0_17.out hb)
 have BL1_18 := am_ (blk_below BL1_17.out hb)
 have Bw_18 := am_ (blk_below Bw_17.out hb)
 have Bx_18 := am_ (blk_below Bx_17.out hb)
 have Bz_18 := am_ (blk_below Bz_17.out hb)
 have Bg_18 := am_ (blk_below Bg_17.out hb)
 have HB_18 := am_ (below_then HB_17.out HB_17.out.size hb)
 clear Rw_17 Rg_17 BL0_17 BL1_17 Bw_17 Bx_17 Bz_17 Bg_17 HB_17 hb
 have hl0 : V14.cell? ⟨gg, 0, none⟩ = some (.slice Ag want.length cg) := (blk_cell Bg_18.out 0).trans rfl
 go_wp2_with (go_at_call 33; refine park ?_)
 clear hl0
 refine ⟨?_⟩
 have QV14 := am_ (show w.heap.size ≤ V14.heap.size from HB_18.out.size)
 refine (laws_markProg.calls k (fun j => V4a.heap.size ≤ j ∧ j < gg) _ want 1 m w2 w _ HB_18.out Rg_18.out Gmkw.out).mono ?_
 rintro e V15 ⟨rfl, hS, hb, hk⟩
 have hn := NUM.out
 have Rw_19 := am_ (Kd.S_step Rw_18.out (fun j hj hlt => hk.2 j hlt (fun h2 => by omega)))
 have Rg_19 := am_ hS
 have BL0_19 := am_ ((hk.2 (w.heap.size) (blk_lt BL0_18.out) (fun h2 => by omega)).trans BL0_18.out)
 have BL1_19 := am_ ((hk.2 (w.heap.size + 1) (blk_lt BL1_18.out) (fun h2 => by omega)).trans BL1_18.out)
 have Bw_19 := am_ ((hk.2 (gw) (blk_lt Bw_18.out) (fun h2 => by omega)).trans Bw_18.out)
 have Bx_19 := am_ ((hk.2 (gx) (blk_lt Bx_18.out) (fun h2 => by omega)).trans Bx_18.out)
 have Bz_19 := am_ ((hk.2 (gz) (blk_lt Bz_18.out) (fun h2 => by omega)).trans Bz_18.out)
 have Bg_19 := am_ ((hk.2 (gg) (blk_lt Bg_18.out) (fun h2 => by omega)).trans Bg_18.out)
 have HB_19 := am_ hb
 clear Rw_18 Rg_18 BL0_18 BL1_18 Bw_18 Bx_18 Bz_18 Bg_18 HB_18 hS hb hk hn
 have EL := am_ (show want.length = w2.length from (Kd.S_reads' Rg_19.out).1)
 have hl0 : V15.cell? ⟨gg, 0, none⟩ = some (.slice Ag want.length cg) := (blk_cell Bg_19.out 0).trans rfl
 go_wp2_with (go_at_call 34; refine park ?_)
 clear hl0
 refine ⟨?_⟩
 have QV15 := am_ (show w.heap.size ≤ V15.heap.size from HB_19.out.size)
 have hw2 := (Kd.S_reads' Rg_19.out)
 rw [EL.out] at hw2 ⊢
 refine (laws_heldProg.calls k _ _ w2 1 m _ hw2.2.2 hw2.2.1 Gheld.out).mono ?_
 rintro e V16 ⟨rfl, hb⟩
 have Rw_20 := am_ (Kd.S_below Rw_19.out hb)
 have Rg_20 := am_ (Kd.S_below Rg_19.out hb)
 have BL0_20 := am_ (blk_below BL0_19.out hb)
 have BL1_20 := am_ (blk_below BL1_19.out hb)
 have Bw_20 := am_ (blk_below Bw_19.out hb)
 have Bx_20 := am_ (blk_below Bx_19.out hb)
 have Bz_20 := am_ (blk_below Bz_19.out hb)
 have Bg_20 := am_ (blk_below Bg_19.out hb)
 have HB_20 := am_ (below_then HB_19.out HB_19.out.size hb)
 clear Rw_19 Rg_19 BL0_19 BL1_19 Bw_19 Bx_19 Bz_19 Bg_19 HB_19 hb hw2
 have Rg_u := am_ (Kd.S_mono (ok' := fun _ => True) Rg_20.out (fun _ _ => trivial))
 clear Rg_20
 go_wp2_with fail
 have hb := below_drew (Below.refl V16.heap.size V16)
 have Rw_21 := am_ (Kd.S_below Rw_20.out hb)
 have Rg_21 := am_ (Kd.S_below Rg_u.out hb)
 have BL0_21 := am_ (blk_below BL0_20.out hb)
 have BL1_21 := am_ (blk_below BL1_20.out hb)
 have Bw_21 := am_ (blk_below Bw_20.out hb)
 have Bx_21 := am_ (blk_below Bx_20.out hb)
 have Bz_21 := am_ (blk_below Bz_20.out hb)
 have Bg_21 := am_ (blk_below Bg_20.out hb)
 have HB_21 := am_ (below_then HB_20.out HB_20.out.size hb)
 clear Rw_20 Rg_u BL0_20 BL1_20 Bw_20 Bx_20 Bz_20 Bg_20 HB_20 hb
 refine start_ (n := 11) (S := fun w' => w'.cell? ⟨w.heap.size, 0, none⟩ = some (.slice A0 l.length c0) ∧ w'.cell? ⟨w.heap.size + 1, 0, none⟩ = some (.slice A1 l2.length c1)) (ds := []) #[false, false, false, false, false, false, false, false, false, false, false] (by kernel_rfl) rfl rfl ⟨(blk_cell BL0_21.out 0).trans rfl, (blk_cell BL1_21.out 0).trans rfl⟩ (fun hHeld => ?_)
 refine with_tabW laws_FnExactTurnBeside.tab31 laws_FnExactTurnBeside.bits31 (fun HT_ HW_ => ?_)
 generalize V16.drew = V17 at *
 have QV17 := am_ (show w.heap.size ≤ V17.heap.size from HB_21.out.size)
 have NL0V17 := am_ (show w.heap.size < V17.heap.size from blk_lt BL0_21.out)
 have NL1V17 := am_ (show w.heap.size + 1 < V17.heap.size from blk_lt BL1_21.out)
 have NwV17 := am_ (show gw < V17.heap.size from blk_lt Bw_21.out)
 have NxV17 := am_ (show gx < V17.heap.size from blk_lt Bx_21.out)
 have NzV17 := am_ (show gz < V17.heap.size from blk_lt Bz_21.out)
 have NgV17 := am_ (show gg < V17.heap.size from blk_lt Bg_21.out)
 refine take_ (i := 0) (N := some 95) (v := ?_) (a' := ?_) #[true, false, false, false, false, false, false, false, false, false, false] rfl rfl (take_ofW HT_.out HW_.out (by kernel_rfl)) (fun _ _ _ h => h) (Or.inl ⟨by rfl, ?_⟩) hHeld ?_ ?_
 rotate_left
 ·intro w' s0
  have s1 := s0.1
  go_simp
  with_reducible rfl
 rotate_left
 ·simp only [Act.put, List.setIfInBounds_toArray, List.set_cons_zero, List.set_cons_succ, i64_w, i32_w]
  rfl
 refine take_ (i := 2) (N := some 97) (v := ?_) (a' := ?_) #[true, false, true, false, false, false, false, false, false, false, false] rfl rfl (take_ofW HT_.out HW_.out (by kernel_rfl)) (fun _ _ _ h => h) (Or.inl ⟨by rfl, ?_⟩) hHeld ?_ ?_
 rotate_left
 ·intro w' s0
  have s1 := s0.2
  go_simp
  with_reducible rfl
 rotate_left
 ·simp only [Act.put, List.setIfInBounds_toArray, List.set_cons_zero, List.set_cons_succ, i64_w, i32_w]
  rfl
 refine join_ (σ := Value × Value × Value × Nat) 2 #[true, true, true, true, true, true, true, true, true, false, false] (fun s_ => [(96, .agg #[s_.1]), (98, .agg #[s_.2.1]), (99, .tuple #[.agg #[s_.2.2.1], .bool told]), (94, .tuple #[.agg #[s_.2.2.1], .bool told]), (100, .agg #[s_.2.2.1]), (101, .bool told), (15, .pointer (some ⟨s_.2.2.2, 0, none⟩))]) (fun s_ w' => (w'.cell? ⟨w.heap.size, 0, none⟩ = some (.slice A0 l.length c0) ∧ w'.cell? ⟨w.heap.size + 1, 0, none⟩ = some (.slice A1 l2.length c1)) ∧ w'.heap[w.heap.size]? = some (Obj.cells #[Value.slice A0 l.length c0] 52) ∧ w'.heap[w.heap.size + 1]? = some (Obj.cells #[Value.slice A1 l2.length c1] 52) ∧ w'.heap[gw]? = some (Obj.cells #[Value.slice Aw want.length cw] 35) ∧ w'.heap[gx]? = some (Obj.cells #[Value.slice Ax p.length cx] 35) ∧ w'.heap[gz]? = some (Obj.cells #[Value.slice Az q.length cz] 35) ∧ w'.heap[gg]? = some (Obj.cells #[Value.slice Ag want.length cg] 35) ∧ Kd.S (Kd.slice 85 k85) 82 w' w.heap.size (fun j => V0.heap.size ≤ j ∧ j < V1s.heap.size ∧ j ≠ gw) (.slice Aw want.length cw) want ∧ Kd.S (Kd.slice 85 k85) 82 w' w.heap.size (fun _ => True) (.slice Ag want.length cg) w2 ∧ w'.heap[s_.2.2.2]? = some (Obj.cells #[Value.slice none 0 0] 35) ∧ Kd.S (Kd.slice 85 k85) 82 w' w.heap.size (fun j => V17.heap.size ≤ j ∧ j < w'.heap.size ∧ j ≠ s_.2.2.2) s_.2.2.1 want ∧ Below w.heap.size w w' ∧ V17.heap.size ≤ s_.2.2.2 ∧ s_.2.2.2 < w'.heap.size) ?_ ?_
 rotate_left
 ·intro hCont
  refine two_ (i := 1) (j := 8) (Ni := some 96) (Nj := some 15) #[true, true, true, false, false, false, false, false, false, false, false] #[true, false, true, false, false, false, false, false, true, false, false] rfl rfl rfl rfl (two_of HT_.out (by kernel_rfl)) (by decide) (by decide) (fun K hK => ?_) (fun K hK => ?_)
  ·refine goes_ Try.func45 (by kernel_rfl) rfl #[.agg #[.slice A0 l.length c0]] (by rfl) rfl rfl (by (try simp only [List.map_toArray, List.map_cons, List.map_nil]); first | done | rfl) ?_
   with_reducible refine (laws_toProg.calls k _ _ l p _ (Kd.C_below CL.out HB_21.out) LL.out Gto.out).mono ?_
   rintro e V17n1 ⟨va, rfl, hS, hb⟩
   refine ⟨_, rfl, ?_⟩
   obtain ⟨Aa, ca, rfl⟩ := Kd.S_slice hS
   have Rw_22 := am_ (Kd.S_below Rw_21.out hb)
   have Rg_22 := am_ (Kd.S_below Rg_21.out hb)
   have BL0_22 := am_ (blk_below BL0_21.out hb)
   have BL1_22 := am_ (blk_below BL1_21.out hb)
   have Bw_22 := am_ (blk_below Bw_21.out hb)
   have Bx_22 := am_ (blk_below Bx_21.out hb)
   have Bz_22 := am_ (blk_below Bz_21.out hb)
   have Bg_22 := am_ (blk_below Bg_21.out hb)
   have HB_22 := am_ (below_then HB_21.out HB_21.out.size hb)
   clear Rw_21 Rg_21 BL0_21 BL1_21 Bw_21 Bx_21 Bz_21 Bg_21 HB_21
   have Ra_n := am_ hS
   have HVV17n1 : V17.heap.size ≤ V17n1.heap.size := hb.size
   clear hS hb
   have VV_v23 := am_ (show V17.heap.size ≤ V17n1.heap.size from HVV17n1)
   refine hK.out _ _ ⟨(blk_cell BL0_22.out 0).trans rfl, (blk_cell BL1_22.out 0).trans rfl⟩ (fun hHeld => ?_)
   clear hK K
   refine norm_ (a' := ?_) ?_ ?_
   rotate_left
   ·show Act.put _ (some 96) _ = _
    simp only [Act.put, List.setIfInBounds_toArray, List.set_cons_zero, List.set_cons_succ, i64_w, i32_w]
    rfl
   refine two_ (i := 3) (j := 8) (Ni := some 98) (Nj := some 15) #[true, true, true, true, false, false, false, false, false, false, false] #[true, true, true, false, false, false, false, false, true, false, false] rfl rfl rfl rfl (two_of HT_.out (by kernel_rfl)) (by decide) (by decide) (fun K hK => ?_) (fun K hK => ?_)
   ·refine goes_ Try.func45 (by kernel_rfl) rfl #[.agg #[.slice A1 l2.length c1]] (by rfl) rfl rfl (by (try simp only [List.map_toArray, List.map_cons, List.map_nil]); first | done | rfl) ?_
    with_reducible refine (laws_toProg.calls k _ _ l2 q _ (Kd.C_below CM.out HB_22.out) LM.out Gtoq.out).mono ?_
    rintro e V17n2 ⟨vb, rfl, hS, hb⟩
    refine ⟨_, rfl, ?_⟩
    obtain ⟨Ab, cb, rfl⟩ := Kd.S_slice hS
    have Rw_24 := am_ (Kd.S_below Rw_22.out hb)
    have Rg_24 := am_ (Kd.S_below Rg_22.out hb)
    have Ra_24 := am_ (Kd.S_below Ra_n.out hb)
    have BL0_24 := am_ (blk_below BL0_22.out hb)
    have BL1_24 := am_ (blk_below BL1_22.out hb)
    have Bw_24 := am_ (blk_below Bw_22.out hb)
    have Bx_24 := am_ (blk_below Bx_22.out hb)
    have Bz_24 := am_ (blk_below Bz_22.out hb)
    have Bg_24 := am_ (blk_below Bg_22.out hb)
    have HB_24 := am_ (below_then HB_22.out HB_22.out.size hb)
    clear Rw_22 Rg_22 Ra_n BL0_22 BL1_22 Bw_22 Bx_22 Bz_22 Bg_22 HB_22
    have Rb_n := am_ hS
    have HVV17n2 : V17.heap.size ≤ V17n2.heap.size := Nat.le_trans VV_v23.out hb.size
    clear hS hb
    have VV_v25 := am_ (show V17.heap.size ≤ V17n2.heap.size from HVV17n2)
    refine hK.out _ _ ⟨(blk_cell BL0_24.out 0).trans rfl, (blk_cell BL1_24.out 0).trans rfl⟩ (fun hHeld => ?_)
    clear hK K
    refine norm_ (a' := ?_) ?_ ?_
    rotate_left
    ·show Act.put _ (some 98) _ = _
     simp only [Act.put, List.setIfInBounds_toArray, List.set_cons_zero, List.set_cons_succ, i64_w, i32_w]
     rfl
    refine two_ (i := 4) (j := 8) (Ni := some 99) (Nj := some 15) #[true, true, true, true, true, false, false, false, false, false, false] #[true, true, true, true, false, false, false, false, true, false, false] rfl rfl rfl rfl (two_of HT_.out (by kernel_rfl)) (by decide) (by decide) (fun K hK => ?_) (fun K hK => ?_)
    ·refine goes_ Try.func39 (by kernel_rfl) rfl #[.agg #[.slice Aa p.length ca], .agg #[.slice Ab q.length cb]] (by rfl) rfl rfl (by (try simp only [List.map_toArray, List.map_cons, List.map_nil]); first | done | rfl) ?_
     with_reducible refine (impl_TurnBeside.calls k _ _ p _ _ q want told _ (Kd.S_reads' Ra_24.out).2.2 (Kd.S_reads' Ra_24.out).2.1 (Kd.S_reads' Rb_n.out).2.2 (Kd.S_reads' Rb_n.out).2.1 Gim.out).mono ?_
     rintro e V17n3 ⟨vc, rfl, hS, hb⟩
     refine ⟨_, rfl, ?_⟩
     obtain ⟨Ac, cc, rfl⟩ := Kd.S_slice hS
     have hle : w.heap.size ≤ V17n2.heap.size := HB_24.out.size
     have hvv : V17.heap.size ≤ V17n2.heap.size := VV_v25.out
     have Rw_26 := am_ (Kd.S_below Rw_24.out hb)
     have Rg_26 := am_ (Kd.S_below Rg_24.out hb)
     have BL0_26 := am_ (blk_below BL0_24.out hb)
     have BL1_26 := am_ (blk_below BL1_24.out hb)
     have Bw_26 := am_ (blk_below Bw_24.out hb)
     have Bx_26 := am_ (blk_below Bx_24.out hb)
     have Bz_26 := am_ (blk_below Bz_24.out hb)
     have Bg_26 := am_ (blk_below Bg_24.out hb)
     have HB_26 := am_ (below_then HB_24.out HB_24.out.size hb)
     clear Rw_24 Rg_24 BL0_24 BL1_24 Bw_24 Bx_24 Bz_24 Bg_24 HB_24
     have Rc_n := am_ (Kd.S_lower (Kd.S_mono (ok' := fun j => V17.heap.size ≤ j ∧ j < V17n3.heap.size) (Kd.S_bound hS) (fun j hj => ⟨Nat.le_trans hvv hj.2.1, hj.2.2.1⟩)) hle)
     clear hS hle hvv
     have VV_v27 := am_ (show V17.heap.size ≤ V17n3.heap.size from Nat.le_trans VV_v25.out hb.size)
     refine hK.out _ _ ⟨(blk_cell BL0_26.out 0).trans rfl, (blk_cell BL1_26.out 0).trans rfl⟩ (fun hHeld => ?_)
     clear hK K
     refine norm_ (a' := ?_) ?_ ?_
     rotate_left
     ·show Act.put _ (some 99) _ = _
      simp only [Act.put, List.setIfInBounds_toArray, List.set_cons_zero, List.set_cons_succ, i64_w, i32_w]
      rfl
     refine pure_ (i := 5) (N := some 94) (v := ?_) (a' := ?_) #[true, true, true, true, true, true, false, false, false, false, false] rfl rfl (any_of HT_.out (by kernel_rfl)) (fun _ _ _ h => h) (Or.inl ⟨by rfl, ?_⟩) ?_ ?_
     rotate_left
     ·intro w'
      go_simp
      with_reducible rfl
     rotate_left
     ·simp only [Act.put, List.setIfInBounds_toArray, List.set_cons_zero, List.set_cons_succ, i64_w, i32_w]
      rfl
     refine pure_ (i := 6) (N := some 100) (v := ?_) (a' := ?_) #[true, true, true, true, true, true, true, false, false, false, false] rfl rfl (any_of HT_.out (by kernel_rfl)) (fun _ _ _ h => h) (Or.inl ⟨by rfl, ?_⟩) ?_ ?_
     rotate_left
     ·intro w'
      go_simp
      with_reducible rfl
     rotate_left
     ·simp only [Act.put, List.setIfInBounds_toArray, List.set_cons_zero, List.set_cons_succ, i64_w, i32_w]
      rfl
     refine pure_ (i := 7) (N := some 101) (v := ?_) (a' := ?_) #[true, true, true, true, true, true, true, true, false, false, false] rfl rfl (any_of HT_.out (by kernel_rfl)) (fun _ _ _ h => h) (Or.inl ⟨by rfl, ?_⟩) ?_ ?_
     rotate_left
     ·intro w'
      go_simp
      with_reducible rfl
     rotate_left
     ·simp only [Act.put, List.setIfInBounds_toArray, List.set_cons_zero, List.set_cons_succ, i64_w, i32_w]
      rfl
     refine one_ (i := 8) (N := some 15) #[true, true, true, true, true, true, true, true, true, false, false] rfl rfl (one_of HT_.out (by kernel_rfl)) (by decide) (fun K hK => ?_)
     refine box_step (by rfl) (N := 15) rfl (cs := #[Value.slice none 0 0]) (t := 35) ?hr ?_
     case hr => first | (go_simp; done) | (go_simp; rfl)
     intro gx hgx V17n4 hbx hb
     have GX := am_ (show V17.heap.size ≤ gx from by rw [hgx]; exact VV_v27.out)
     have hrc := Kd.S_mono (ok' := fun j => V17.heap.size ≤ j ∧ j < V17n4.heap.size ∧ j ≠ gx) Rc_n.out (fun j hj => ⟨hj.1, by have := hj.2; have := hb.size; omega, by have := hj.2; omega⟩)
     have Rw_28 := am_ (Kd.S_below Rw_26.out hb)
     have Rg_28 := am_ (Kd.S_below Rg_26.out hb)
     have BL0_28 := am_ (blk_below BL0_26.out hb)
     have BL1_28 := am_ (blk_below BL1_26.out hb)
     have Bw_28 := am_ (blk_below Bw_26.out hb)
     have Bx_28 := am_ (blk_below Bx_26.out hb)
     have Bz_28 := am_ (blk_below Bz_26.out hb)
     have Bg_28 := am_ (blk_below Bg_26.out hb)
     have HB_28 := am_ (below_then HB_26.out HB_26.out.size hb)
     clear Rw_26 Rg_26 BL0_26 BL1_26 Bw_26 Bx_26 Bz_26 Bg_26 HB_26
     have BX_n := am_ hbx
     have Rc_m := am_ (Kd.S_below hrc hb)
     clear hrc Rc_n
     have GL_n := am_ (show gx < V17n4.heap.size from blk_lt hbx)
     clear hbx hgx
     have VV_v29 := am_ (show V17.heap.size ≤ V17n4.heap.size from Nat.le_trans VV_v27.out hb.size)
     refine hK.out _ _ ⟨(blk_cell BL0_28.out 0).trans rfl, (blk_cell BL1_28.out 0).trans rfl⟩ (fun hHeld => ?_)
     clear hK K
     refine norm_ (a' := ?_) ?_ ?_
     rotate_left
     ·show Act.put _ (some 15) _ = _
      simp only [Act.put, List.setIfInBounds_toArray, List.set_cons_zero, List.set_cons_succ, i64_w, i32_w]
      rfl
     have zz := hCont (.slice Aa p.length ca, .slice Ab q.length cb, .slice Ac want.length cc, gx) _ ⟨⟨(blk_cell BL0_28.out 0).trans rfl, (blk_cell BL1_28.out 0).trans rfl⟩, BL0_28.out, BL1_28.out, Bw_28.out, Bx_28.out, Bz_28.out, Bg_28.out, Rw_28.out, Rg_28.out, BX_n.out, Rc_m.out, HB_28.out, GX.out, GL_n.out⟩
     simp only [putAll, Act.put, List.setIfInBounds_toArray, List.set_cons_zero, List.set_cons_succ] at zz
     exact zz
    ·refine box_step (by rfl) (N := 15) rfl (cs := #[Value.slice none 0 0]) (t := 35) ?hr ?_
     case hr => first | (go_simp; done) | (go_simp; rfl)
     intro gx hgx V17n5 hbx hb
     have GX := am_ (show V17.heap.size ≤ gx from by rw [hgx]; exact VV_v25.out)
     have Rw_26 := am_ (Kd.S_below Rw_24.out hb)
     have Rg_26 := am_ (Kd.S_below Rg_24.out hb)
     have Ra_26 := am_ (Kd.S_below Ra_24.out hb)
     have Rb_26 := am_ (Kd.S_below Rb_n.out hb)
     have BL0_26 := am_ (blk_below BL0_24.out hb)
     have BL1_26 := am_ (blk_below BL1_24.out hb)
     have Bw_26 := am_ (blk_below Bw_24.out hb)
     have Bx_26 := am_ (blk_below Bx_24.out hb)
     have Bz_26 := am_ (blk_below Bz_24.out hb)
     have Bg_26 := am_ (blk_below Bg_24.out hb)
     have HB_26 := am_ (below_then HB_24.out HB_24.out.size hb)
     clear Rw_24 Rg_24 Ra_24 Rb_n BL0_24 BL1_24 Bw_24 Bx_24 Bz_24 Bg_24 HB_24
     have BX_n := am_ hbx
     have GL_n := am_ (show gx < V17n5.heap.size from blk_lt hbx)
     clear hbx hgx
     have VV_v27 := am_ (show V17.heap.size ≤ V17n5.heap.size from Nat.le_trans VV_v25.out hb.size)
     refine hK.out _ _ ⟨(blk_cell BL0_26.out 0).trans rfl, (blk_cell BL1_26.out 0).trans rfl⟩ (fun hHeld => ?_)
     clear hK K
     refine norm_ (a' := ?_) ?_ ?_
     rotate_left
     ·show Act.put _ (some 15) _ = _
      simp only [Act.put, List.setIfInBounds_toArray, List.set_cons_zero, List.set_cons_succ, i64_w, i32_w]
      rfl
     refine one_ (i := 4) (N := some 99) #[true, true, true, true, true, false, false, false, true, false, false] rfl rfl (one_of HT_.out (by kernel_rfl)) (by decide) (fun K hK => ?_)
     refine goes_ Try.func39 (by kernel_rfl) rfl #[.agg #[.slice Aa p.length ca], .agg #[.slice Ab q.length cb]] (by rfl) rfl rfl (by (try simp only [List.map_toArray, List.map_cons, List.map_nil]); first | done | rfl) ?_
     with_reducible refine (impl_TurnBeside.calls k _ _ p _ _ q want told _ (Kd.S_reads' Ra_26.out).2.2 (Kd.S_reads' Ra_26.out).2.1 (Kd.S_reads' Rb_26.out).2.2 (Kd.S_reads' Rb_26.out).2.1 Gim.out).mono ?_
     rintro e V17n6 ⟨vc, rfl, hS, hb⟩
     refine ⟨_, rfl, ?_⟩
     obtain ⟨Ac, cc, rfl⟩ := Kd.S_slice hS
     have hle : w.heap.size ≤ V17n5.heap.size := HB_26.out.size
     have hvv : V17.heap.size ≤ V17n5.heap.size := VV_v27.out
     have Rw_28 := am_ (Kd.S_below Rw_26.out hb)
     have Rg_28 := am_ (Kd.S_below Rg_26.out hb)
     have BL0_28 := am_ (blk_below BL0_26.out hb)
     have BL1_28 := am_ (blk_below BL1_26.out hb)
     have Bw_28 := am_ (blk_below Bw_26.out hb)
     have Bx_28 := am_ (blk_below Bx_26.out hb)
     have Bz_28 := am_ (blk_below Bz_26.out hb)
     have Bg_28 := am_ (blk_below Bg_26.out hb)
     have BX_28 := am_ (blk_below BX_n.out hb)
     have HB_28 := am_ (below_then HB_26.out HB_26.out.size hb)
     clear Rw_26 Rg_26 BL0_26 BL1_26 Bw_26 Bx_26 Bz_26 Bg_26 BX_n HB_26
     have hgl := GL_n.out
     have Rc_n := am_ (Kd.S_lower (Kd.S_mono (ok' := fun j => V17.heap.size ≤ j ∧ j < V17n6.heap.size ∧ j ≠ gx) (Kd.S_bound hS) (fun j hj => ⟨Nat.le_trans hvv hj.2.1, hj.2.2.1, by have := hj.2.1; omega⟩)) hle)
     clear hS hle hvv hgl
     have VV_v29 := am_ (show V17.heap.size ≤ V17n6.heap.size from Nat.le_trans VV_v27.out hb.size)
     have GL_v29 := am_ (show gx < V17n6.heap.size from blk_lt BX_28.out)
     refine hK.out _ _ ⟨(blk_cell BL0_28.out 0).trans rfl, (blk_cell BL1_28.out 0).trans rfl⟩ (fun hHeld => ?_)
     clear hK K
     refine norm_ (a' := ?_) ?_ ?_
     rotate_left
     ·show Act.put _ (some 99) _ = _
      simp only [Act.put, List.setIfInBounds_toArray, List.set_cons_zero, List.set_cons_succ, i64_w, i32_w]
      rfl
     refine pure_ (i := 5) (N := some 94) (v := ?_) (a' := ?_) #[true, true, true, true, true, true, false, false, true, false, false] rfl rfl (any_of HT_.out (by kernel_rfl)) (fun _ _ _ h => h) (Or.inl ⟨by rfl, ?_⟩) ?_ ?_
     rotate_left
     ·intro w'
      go_simp
      with_reducible rfl
     rotate_left
     ·simp only [Act.put, List.setIfInBounds_toArray, List.set_cons_zero, List.set_cons_succ, i64_w, i32_w]
      rfl
     refine pure_ (i := 6) (N := some 100) (v := ?_) (a' := ?_) #[true, true, true, true, true, true, true, false, true, false, false] rfl rfl (any_of HT_.out (by kernel_rfl)) (fun _ _ _ h => h) (Or.inl ⟨by rfl, ?_⟩) ?_ ?_
     rotate_left
     ·intro w'
      go_simp
      with_reducible rfl
     rotate_left
     ·simp only [Act.put, List.setIfInBounds_toArray, List.set_cons_zero, List.set_cons_succ, i64_w, i32_w]
      rfl
     refine pure_ (i := 7) (N := some 101) (v := ?_) (a' := ?_) #[true, true, true, true, true, true, true, true, true, false, false] rfl rfl (any_of HT_.out (by kernel_rfl)) (fun _ _ _ h => h) (Or.inl ⟨by rfl, ?_⟩) ?_ ?_
     rotate_left
     ·intro w'
      go_simp
      with_reducible rfl
     rotate_left
     ·simp only [Act.put, List.setIfInBounds_toArray, List.set_cons_zero, List.set_cons_succ, i64_w, i32_w]
      rfl
     have zz := hCont (.slice Aa p.length ca, .slice Ab q.length cb, .slice Ac want.length cc, gx) _ ⟨⟨(blk_cell BL0_28.out 0).trans rfl, (blk_cell BL1_28.out 0).trans rfl⟩, BL0_28.out, BL1_28.out, Bw_28.out, Bx_28.out, Bz_28.out, Bg_28.out, Rw_28.out, Rg_28.out, BX_28.out, Rc_n.out, HB_28.out, GX.out, GL_v29.out⟩
     simp only [putAll, Act.put, List.setIfInBounds_toArray, List.set_cons_zero, List.set_cons_succ] at zz
     exact zz
   ·refine box_step (by rfl) (N := 15) rfl (cs := #[Value.slice none 0 0]) (t := 35) ?hr ?_
    case hr => first | (go_simp; done) | (go_simp; rfl)
    intro gx hgx V17n7 hbx hb
    have GX := am_ (show V17.heap.size ≤ gx from by rw [hgx]; exact VV_v23.out)
    have Rw_24 := am_ (Kd.S_below Rw_22.out hb)
    have Rg_24 := am_ (Kd.S_below Rg_22.out hb)
    have Ra_24 := am_ (Kd.S_below Ra_n.out hb)
    have BL0_24 := am_ (blk_below BL0_22.out hb)
    have BL1_24 := am_ (blk_below BL1_22.out hb)
    have Bw_24 := am_ (blk_below Bw_22.out hb)
    have Bx_24 := am_ (blk_below Bx_22.out hb)
    have Bz_24 := am_ (blk_below Bz_22.out hb)
    have Bg_24 := am_ (blk_below Bg_22.out hb)
    have HB_24 := am_ (below_then HB_22.out HB_22.out.size hb)
    clear Rw_22 Rg_22 Ra_n BL0_22 BL1_22 Bw_22 Bx_22 Bz_22 Bg_22 HB_22
    have BX_n := am_ hbx
    have GL_n := am_ (show gx < V17n7.heap.size from blk_lt hbx)
    clear hbx hgx
    have VV_v25 := am_ (show V17.heap.size ≤ V17n7.heap.size from Nat.le_trans VV_v23.out hb.size)
    refine hK.out _ _ ⟨(blk_cell BL0_24.out 0).trans rfl, (blk_cell BL1_24.out 0).trans rfl⟩ (fun hHeld => ?_)
    clear hK K
    refine norm_ (a' := ?_) ?_ ?_
    rotate_left
    ·show Act.put _ (some 15) _ = _
     simp only [Act.put, List.setIfInBounds_toArray, List.set_cons_zero, List.set_cons_succ, i64_w, i32_w]
     rfl
    refine one_ (i := 3) (N := some 98) #[true, true, true, true, false, false, false, false, true, false, false] rfl rfl (one_of HT_.out (by kernel_rfl)) (by decide) (fun K hK => ?_)
    refine goes_ Try.func45 (by kernel_rfl) rfl #[.agg #[.slice A1 l2.length c1]] (by rfl) rfl rfl (by (try simp only [List.map_toArray, List.map_cons, List.map_nil]); first | done | rfl) ?_
    with_reducible refine (laws_toProg.calls k _ _ l2 q _ (Kd.C_below CM.out HB_24.out) LM.out Gtoq.out).mono ?_
    rintro e V17n8 ⟨vb, rfl, hS, hb⟩
    refine ⟨_, rfl, ?_⟩
    obtain ⟨Ab, cb, rfl⟩ := Kd.S_slice hS
    have Rw_26 := am_ (Kd.S_below Rw_24.out hb)
    have Rg_26 := am_ (Kd.S_below Rg_24.out hb)
    have Ra_26 := am_ (Kd.S_below Ra_24.out hb)
    have BL0_26 := am_ (blk_below BL0_24.out hb)
    have BL1_26 := am_ (blk_below BL1_24.out hb)
    have Bw_26 := am_ (blk_below Bw_24.out hb)
    have Bx_26 := am_ (blk_below Bx_24.out hb)
    have Bz_26 := am_ (blk_below Bz_24.out hb)
    have Bg_26 := am_ (blk_below Bg_24.out hb)
    have BX_26 := am_ (blk_below BX_n.out hb)
    have HB_26 := am_ (below_then HB_24.out HB_24.out.size hb)
    clear Rw_24 Rg_24 Ra_24 BL0_24 BL1_24 Bw_24 Bx_24 Bz_24 Bg_24 BX_n HB_24
    have Rb_n := am_ hS
    have HVV17n8 : V17.heap.size ≤ V17n8.heap.size := Nat.le_trans VV_v25.out hb.size
    clear hS hb
    have VV_v27 := am_ (show V17.heap.size ≤ V17n8.heap.size from HVV17n8)
    have GL_v27 := am_ (show gx < V17n8.heap.size from blk_lt BX_26.out)
    refine hK.out _ _ ⟨(blk_cell BL0_26.out 0).trans rfl, (blk_cell BL1_26.out 0).trans rfl⟩ (fun hHeld => ?_)
    clear hK K
    refine norm_ (a' := ?_) ?_ ?_
    rotate_left
    ·show Act.put _ (some 98) _ = _
     simp only [Act.put, List.setIfInBounds_toArray, List.set_cons_zero, List.set_cons_succ, i64_w, i32_w]
     rfl
    refine one_ (i := 4) (N := some 99) #[true, true, true, true, true, false, false, false, true, false, false] rfl rfl (one_of HT_.out (by kernel_rfl)) (by decide) (fun K hK => ?_)
    refine goes_ Try.func39 (by kernel_rfl) rfl #[.agg #[.slice Aa p.length ca], .agg #[.slice Ab q.length cb]] (by rfl) rfl rfl (by (try simp only [List.map_toArray, List.map_cons, List.map_nil]); first | done | rfl) ?_
    with_reducible refine (impl_TurnBeside.calls k _ _ p _ _ q want told _ (Kd.S_reads' Ra_26.out).2.2 (Kd.S_reads' Ra_26.out).2.1 (Kd.S_reads' Rb_n.out).2.2 (Kd.S_reads' Rb_n.out).2.1 Gim.out).mono ?_
    rintro e V17n9 ⟨vc, rfl, hS, hb⟩
    refine ⟨_, rfl, ?_⟩
    obtain ⟨Ac, cc, rfl⟩ := Kd.S_slice hS
    have hle : w.heap.size ≤ V17n8.heap.size := HB_26.out.size
    have hvv : V17.heap.size ≤ V17n8.heap.size := VV_v27.out
    have Rw_28 := am_ (Kd.S_below Rw_26.out hb)
    have Rg_28 := am_ (Kd.S_below Rg_26.out hb)
    have BL0_28 := am_ (blk_below BL0_26.out hb)
    have BL1_28 := am_ (blk_below BL1_26.out hb)
    have Bw_28 := am_ (blk_below Bw_26.out hb)
    have Bx_28 := am_ (blk_below Bx_26.out hb)
    have Bz_28 := am_ (blk_below Bz_26.out hb)
    have Bg_28 := am_ (blk_below Bg_26.out hb)
    have BX_28 := am_ (blk_below BX_26.out hb)
    have HB_28 := am_ (below_then HB_26.out HB_26.out.size hb)
    clear Rw_26 Rg_26 BL0_26 BL1_26 Bw_26 Bx_26 Bz_26 Bg_26 BX_26 HB_26
    have hgl := GL_v27.out
    have Rc_n := am_ (Kd.S_lower (Kd.S_mono (ok' := fun j => V17.heap.size ≤ j ∧ j < V17n9.heap.size ∧ j ≠ gx) (Kd.S_bound hS) (fun j hj => ⟨Nat.le_trans hvv hj.2.1, hj.2.2.1, by have := hj.2.1; omega⟩)) hle)
    clear hS hle hvv hgl
    have VV_v29 := am_ (show V17.heap.size ≤ V17n9.heap.size from Nat.le_trans VV_v27.out hb.size)
    have GL_v29 := am_ (show gx < V17n9.heap.size from blk_lt BX_28.out)
    refine hK.out _ _ ⟨(blk_cell BL0_28.out 0).trans rfl, (blk_cell BL1_28.out 0).trans rfl⟩ (fun hHeld => ?_)
    clear hK K
    refine norm_ (a' := ?_) ?_ ?_
    rotate_left
    ·show Act.put _ (some 99) _ = _
     simp only [Act.put, List.setIfInBounds_toArray, List.set_cons_zero, List.set_cons_succ, i64_w, i32_w]
     rfl
    refine pure_ (i := 5) (N := some 94) (v := ?_) (a' := ?_) #[true, true, true, true, true, true, false, false, true, false, false] rfl rfl (any_of HT_.out (by kernel_rfl)) (fun _ _ _ h => h) (Or.inl ⟨by rfl, ?_⟩) ?_ ?_
    rotate_left
    ·intro w'
     go_simp
     with_reducible rfl
    rotate_left
    ·simp only [Act.put, List.setIfInBounds_toArray, List.set_cons_zero, List.set_cons_succ, i64_w, i32_w]
     rfl
    refine pure_ (i := 6) (N := some 100) (v := ?_) (a' := ?_) #[true, true, true, true, true, true, true, false, true, false, false] rfl rfl (any_of HT_.out (by kernel_rfl)) (fun _ _ _ h => h) (Or.inl ⟨by rfl, ?_⟩) ?_ ?_
    rotate_left
    ·intro w'
     go_simp
     with_reducible rfl
    rotate_left
    ·simp only [Act.put, List.setIfInBounds_toArray, List.set_cons_zero, List.set_cons_succ, i64_w, i32_w]
     rfl
    refine pure_ (i := 7) (N := some 101) (v := ?_) (a' := ?_) #[true, true, true, true, true, true, true, true, true, false, false] rfl rfl (any_of HT_.out (by kernel_rfl)) (fun _ _ _ h => h) (Or.inl ⟨by rfl, ?_⟩) ?_ ?_
    rotate_left
    ·intro w'
     go_simp
     with_reducible rfl
    rotate_left
    ·simp only [Act.put, List.setIfInBounds_toArray, List.set_cons_zero, List.set_cons_succ, i64_w, i32_w]
     rfl
    have zz := hCont (.slice Aa p.length ca, .slice Ab q.length cb, .slice Ac want.length cc, gx) _ ⟨⟨(blk_cell BL0_28.out 0).trans rfl, (blk_cell BL1_28.out 0).trans rfl⟩, BL0_28.out, BL1_28.out, Bw_28.out, Bx_28.out, Bz_28.out, Bg_28.out, Rw_28.out, Rg_28.out, BX_28.out, Rc_n.out, HB_28.out, GX.out, GL_v29.out⟩
    simp only [putAll, Act.put, List.setIfInBounds_toArray, List.set_cons_zero, List.set_cons_succ] at zz
    exact zz
  ·refine box_step (by rfl) (N := 15) rfl (cs := #[Value.slice none 0 0]) (t := 35) ?hr ?_
   case hr => first | (go_simp; done) | (go_simp; rfl)
   intro gx hgx V17n10 hbx hb
   have GX := am_ (show V17.heap.size ≤ gx from by rw [hgx]; exact Nat.le_refl _)
   have Rw_22 := am_ (Kd.S_below Rw_21.out hb)
   have Rg_22 := am_ (Kd.S_below Rg_21.out hb)
   have BL0_22 := am_ (blk_below BL0_21.out hb)
   have BL1_22 := am_ (blk_below BL1_21.out hb)
   have Bw_22 := am_ (blk_below Bw_21.out hb)
   have Bx_22 := am_ (blk_below Bx_21.out hb)
   have Bz_22 := am_ (blk_below Bz_21.out hb)
   have Bg_22 := am_ (blk_below Bg_21.out hb)
   have HB_22 := am_ (below_then HB_21.out HB_21.out.size hb)
   clear Rw_21 Rg_21 BL0_21 BL1_21 Bw_21 Bx_21 Bz_21 Bg_21 HB_21
   have BX_n := am_ hbx
   have GL_n := am_ (show gx < V17n10.heap.size from blk_lt hbx)
   clear hbx hgx
   have VV_v23 := am_ (show V17.heap.size ≤ V17n10.heap.size from hb.size)
   refine hK.out _ _ ⟨(blk_cell BL0_22.out 0).trans rfl, (blk_cell BL1_22.out 0).trans rfl⟩ (fun hHeld => ?_)
   clear hK K
   refine norm_ (a' := ?_) ?_ ?_
   rotate_left
   ·show Act.put _ (some 15) _ = _
    simp only [Act.put, List.setIfInBounds_toArray, List.set_cons_zero, List.set_cons_succ, i64_w, i32_w]
    rfl
   refine one_ (i := 1) (N := some 96) #[true, true, true, false, false, false, false, false, true, false, false] rfl rfl (one_of HT_.out (by kernel_rfl)) (by decide) (fun K hK => ?_)
   refine goes_ Try.func45 (by kernel_rfl) rfl #[.agg #[.slice A0 l.length c0]] (by rfl) rfl rfl (by (try simp only [List.map_toArray, List.map_cons, List.map_nil]); first | done | rfl) ?_
   with_reducible refine (laws_toProg.calls k _ _ l p _ (Kd.C_below CL.out HB_22.out) LL.out Gto.out).mono ?_
   rintro e V17n11 ⟨va, rfl, hS, hb⟩
   refine ⟨_, rfl, ?_⟩
   obtain ⟨Aa, ca, rfl⟩ := Kd.S_slice hS
   have Rw_24 := am_ (Kd.S_below Rw_22.out hb)
   have Rg_24 := am_ (Kd.S_below Rg_22.out hb)
   have BL0_24 := am_ (blk_below BL0_22.out hb)
   have BL1_24 := am_ (blk_below BL1_22.out hb)
   have Bw_24 := am_ (blk_below Bw_22.out hb)
   have Bx_24 := am_ (blk_below Bx_22.out hb)
   have Bz_24 := am_ (blk_below Bz_22.out hb)
   have Bg_24 := am_ (blk_below Bg_22.out hb)
   have BX_24 := am_ (blk_below BX_n.out hb)
   have HB_24 := am_ (below_then HB_22.out HB_22.out.size hb)
   clear Rw_22 Rg_22 BL0_22 BL1_22 Bw_22 Bx_22 Bz_22 Bg_22 BX_n HB_22
   have Ra_n := am_ hS
   have HVV17n11 : V17.heap.size ≤ V17n11.heap.size := Nat.le_trans VV_v23.out hb.size
   clear hS hb
   have VV_v25 := am_ (show V17.heap.size ≤ V17n11.heap.size from HVV17n11)
   have GL_v25 := am_ (show gx < V17n11.heap.size from blk_lt BX_24.out)
   refine hK.out _ _ ⟨(blk_cell BL0_24.out 0).trans rfl, (blk_cell BL1_24.out 0).trans rfl⟩ (fun hHeld => ?_)
   clear hK K
   refine norm_ (a' := ?_) ?_ ?_
   rotate_left
   ·show Act.put _ (some 96) _ = _
    simp only [Act.put, List.setIfInBounds_toArray, List.set_cons_zero, List.set_cons_succ, i64_w, i32_w]
    rfl
   refine one_ (i := 3) (N := some 98) #[true, true, true, true, false, false, false, false, true, false, false] rfl rfl (one_of HT_.out (by kernel_rfl)) (by decide) (fun K hK => ?_)
   refine goes_ Try.func45 (by kernel_rfl) rfl #[.agg #[.slice A1 l2.length c1]] (by rfl) rfl rfl (by (try simp only [List.map_toArray, List.map_cons, List.map_nil]); first | done | rfl) ?_
   with_reducible refine (laws_toProg.calls k _ _ l2 q _ (Kd.C_below CM.out HB_24.out) LM.out Gtoq.out).mono ?_
   rintro e V17n12 ⟨vb, rfl, hS, hb⟩
   refine ⟨_, rfl, ?_⟩
   obtain ⟨Ab, cb, rfl⟩ := Kd.S_slice hS
   have Rw_26 := am_ (Kd.S_below Rw_24.out hb)
   have Rg_26 := am_ (Kd.S_below Rg_24.out hb)
   have Ra_26 := am_ (Kd.S_below Ra_n.out hb)
   have BL0_26 := am_ (blk_below BL0_24.out hb)
   have BL1_26 := am_ (blk_below BL1_24.out hb)
   have Bw_26 := am_ (blk_below Bw_24.out hb)
   have Bx_26 := am_ (blk_below Bx_24.out hb)
   have Bz_26 := am_ (blk_below Bz_24.out hb)
   have Bg_26 := am_ (blk_below Bg_24.out hb)
   have BX_26 := am_ (blk_below BX_24.out hb)
   have HB_26 := am_ (below_then HB_24.out HB_24.out.size hb)
   clear Rw_24 Rg_24 Ra_n BL0_24 BL1_24 Bw_24 Bx_24 Bz_24 Bg_24 BX_24 HB_24
   have Rb_n := am_ hS
   have HVV17n12 : V17.heap.size ≤ V17n12.heap.size := Nat.le_trans VV_v25.out hb.size
   clear hS hb
   have VV_v27 := am_ (show V17.heap.size ≤ V17n12.heap.size from HVV17n12)
   have GL_v27 := am_ (show gx < V17n12.heap.size from blk_lt BX_26.out)
   refine hK.out _ _ ⟨(blk_cell BL0_26.out 0).trans rfl, (blk_cell BL1_26.out 0).trans rfl⟩ (fun hHeld => ?_)
   clear hK K
   refine norm_ (a' := ?_) ?_ ?_
   rotate_left
   ·show Act.put _ (some 98) _ = _
    simp only [Act.put, List.setIfInBounds_toArray, List.set_cons_zero, List.set_cons_succ, i64_w, i32_w]
    rfl
   refine one_ (i := 4) (N := some 99) #[true, true, true, true, true, false, false, false, true, false, false] rfl rfl (one_of HT_.out (by kernel_rfl)) (by decide) (fun K hK => ?_)
   refine goes_ Try.func39 (by kernel_rfl) rfl #[.agg #[.slice Aa p.length ca], .agg #[.slice Ab q.length cb]] (by rfl) rfl rfl (by (try simp only [List.map_toArray, List.map_cons, List.map_nil]); first | done | rfl) ?_
   with_reducible refine (impl_TurnBeside.calls k _ _ p _ _ q want told _ (Kd.S_reads' Ra_26.out).2.2 (Kd.S_reads' Ra_26.out).2.1 (Kd.S_reads' Rb_n.out).2.2 (Kd.S_reads' Rb_n.out).2.1 Gim.out).mono ?_
   rintro e V17n13 ⟨vc, rfl, hS, hb⟩
   refine ⟨_, rfl, ?_⟩
   obtain ⟨Ac, cc, rfl⟩ := Kd.S_slice hS
   have hle : w.heap.size ≤ V17n12.heap.size := HB_26.out.size
   have hvv : V17.heap.size ≤ V17n12.heap.size := VV_v27.out
   have Rw_28 := am_ (Kd.S_below Rw_26.out hb)
   have Rg_28 := am_ (Kd.S_below Rg_26.out hb)
   have BL0_28 := am_ (blk_below BL0_26.out hb)
   have BL1_28 := am_ (blk_below BL1_26.out hb)
   have Bw_28 := am_ (blk_below Bw_26.out hb)
   have Bx_28 := am_ (blk_below Bx_26.out hb)
   have Bz_28 := am_ (blk_below Bz_26.out hb)
   have Bg_28 := am_ (blk_below Bg_26.out hb)
   have BX_28 := am_ (blk_below BX_26.out hb)
   have HB_28 := am_ (below_then HB_26.out HB_26.out.size hb)
   clear Rw_26 Rg_26 BL0_26 BL1_26 Bw_26 Bx_26 Bz_26 Bg_26 BX_26 HB_26
   have hgl := GL_v27.out
   have Rc_n := am_ (Kd.S_lower (Kd.S_mono (ok' := fun j => V17.heap.size ≤ j ∧ j < V17n13.heap.size ∧ j ≠ gx) (Kd.S_bound hS) (fun j hj => ⟨Nat.le_trans hvv hj.2.1, hj.2.2.1, by have := hj.2.1; omega⟩)) hle)
   clear hS hle hvv hgl
   have VV_v29 := am_ (show V17.heap.size ≤ V17n13.heap.size from Nat.le_trans VV_v27.out hb.size)
   have GL_v29 := am_ (show gx < V17n13.heap.size from blk_lt BX_28.out)
   refine hK.out _ _ ⟨(blk_cell BL0_28.out 0).trans rfl, (blk_cell BL1_28.out 0).trans rfl⟩ (fun hHeld => ?_)
   clear hK K
   refine norm_ (a' := ?_) ?_ ?_
   rotate_left
   ·show Act.put _ (some 99) _ = _
    simp only [Act.put, List.setIfInBounds_toArray, List.set_cons_zero, List.set_cons_succ, i64_w, i32_w]
    rfl
   refine pure_ (i := 5) (N := some 94) (v := ?_) (a' := ?_) #[true, true, true, true, true, true, false, false, true, false, false] rfl rfl (any_of HT_.out (by kernel_rfl)) (fun _ _ _ h => h) (Or.inl ⟨by rfl, ?_⟩) ?_ ?_
   rotate_left
   ·intro w'
    go_simp
    with_reducible rfl
   rotate_left
   ·simp only [Act.put, List.setIfInBounds_toArray, List.set_cons_zero, List.set_cons_succ, i64_w, i32_w]
    rfl
   refine pure_ (i := 6) (N := some 100) (v := ?_) (a' := ?_) #[true, true, true, true, true, true, true, false, true, false, false] rfl rfl (any_of HT_.out (by kernel_rfl)) (fun _ _ _ h => h) (Or.inl ⟨by rfl, ?_⟩) ?_ ?_
   rotate_left
   ·intro w'
    go_simp
    with_reducible rfl
   rotate_left
   ·simp only [Act.put, List.setIfInBounds_toArray, List.set_cons_zero, List.set_cons_succ, i64_w, i32_w]
    rfl
   refine pure_ (i := 7) (N := some 101) (v := ?_) (a' := ?_) #[true, true, true, true, true, true, true, true, true, false, false] rfl rfl (any_of HT_.out (by kernel_rfl)) (fun _ _ _ h => h) (Or.inl ⟨by rfl, ?_⟩) ?_ ?_
   rotate_left
   ·intro w'
    go_simp
    with_reducible rfl
   rotate_left
   ·simp only [Act.put, List.setIfInBounds_toArray, List.set_cons_zero, List.set_cons_succ, i64_w, i32_w]
    rfl
   have zz := hCont (.slice Aa p.length ca, .slice Ab q.length cb, .slice Ac want.length cc, gx) _ ⟨⟨(blk_cell BL0_28.out 0).trans rfl, (blk_cell BL1_28.out 0).trans rfl⟩, BL0_28.out, BL1_28.out, Bw_28.out, Bx_28.out, Bz_28.out, Bg_28.out, Rw_28.out, Rg_28.out, BX_28.out, Rc_n.out, HB_28.out, GX.out, GL_v29.out⟩
   simp only [putAll, Act.put, List.setIfInBounds_toArray, List.set_cons_zero, List.set_cons_succ] at zz
   exact zz
 rintro ⟨va, vb, vc, gy⟩ V18 ⟨-, hBL0, hBL1, hBw, hBx, hBz, hBg, hRw, hRg, hbx, hS, hB, hgx, hgl⟩
 simp only at hbx hS hgx hgl
 obtain ⟨Ay, cy, rfl⟩ := Kd.S_slice hS
 clear BL0_21 BL1_21 Bw_21 Bx_21 Bz_21 Bg_21 Rw_21 Rg_21 HB_21
 refine norm_ (a' := ?_) ?_ ?_
 rotate_left
 ·simp only [putAll, Act.put, List.setIfInBounds_toArray, List.set_cons_zero, List.set_cons_succ, i64_w, i32_w]
  rfl
 refine one_ (i := 9) (N := none) #[true, true, true, true, true, true, true, true, true, true, false] rfl rfl (one_of HT_.out (by kernel_rfl)) (by decide) (fun K hK => ?_)
 have hs18 : V18.cell? ⟨gy, 0, none⟩ = some (.slice none 0 0) := (blk_cell hbx 0).trans rfl
 have hfs18 := blk_frozen hbx 0
 refine skip_ (w1 := ?_) (by rfl) rfl ?_ ?_
 rotate_left
 ·go_simp
  rfl
 clear hs18 hfs18
 have BL0_sy := am_ (blk_far hBL0 (p := ⟨gy, 0, none⟩) (by have := NL0V17.out; show w.heap.size ≠ gy; omega) (.slice Ay want.length cy))
 have BL1_sy := am_ (blk_far hBL1 (p := ⟨gy, 0, none⟩) (by have := NL1V17.out; show w.heap.size + 1 ≠ gy; omega) (.slice Ay want.length cy))
 have Bw_sy := am_ (blk_far hBw (p := ⟨gy, 0, none⟩) (by have := NwV17.out; show gw ≠ gy; omega) (.slice Ay want.length cy))
 have Bx_sy := am_ (blk_far hBx (p := ⟨gy, 0, none⟩) (by have := NxV17.out; show gx ≠ gy; omega) (.slice Ay want.length cy))
 have Bz_sy := am_ (blk_far hBz (p := ⟨gy, 0, none⟩) (by have := NzV17.out; show gz ≠ gy; omega) (.slice Ay want.length cy))
 have Bg_sy := am_ (blk_far hBg (p := ⟨gy, 0, none⟩) (by have := NgV17.out; show gg ≠ gy; omega) (.slice Ay want.length cy))
 have Rw_sy := am_ (Kd.S_set hRw hbx (by decide) 0 (.slice Ay want.length cy))
 have Rg_sy := am_ (Kd.S_set hRg hbx (by decide) 0 (.slice Ay want.length cy))
 have Ry_sy := am_ (Kd.S_set hS hbx (by decide) 0 (.slice Ay want.length cy))
 have By_sy := am_ (blk_set hbx 0 (.slice Ay want.length cy))
 have HB_sy := am_ (below_set (g := gy) (j := 0) (v := .slice Ay want.length cy) hB (by have := QV17.out; omega))
 have hz : (V18.setCell ⟨gy, 0, none⟩ (.slice Ay want.length cy)).heap.size = V18.heap.size := World.size_setCell _ _ _
 clear hbx hS hB hBL0 hBL1 hBw hBx hBz hBg hRw hRg
 refine hK.out _ _ ⟨(blk_cell BL0_sy.out 0).trans rfl, (blk_cell BL1_sy.out 0).trans rfl⟩ (fun hHeld => ?_)
 clear hK K
 refine pure_ (i := 10) (N := some 16) (v := ?_) (a' := ?_) #[true, true, true, true, true, true, true, true, true, true, true] rfl rfl (any_of HT_.out (by kernel_rfl)) (fun _ _ _ h => h) (Or.inl ⟨by rfl, ?_⟩) ?_ ?_
 rotate_left
 ·intro w'
  go_simp
  with_reducible rfl
 rotate_left
 ·simp only [Act.put, List.setIfInBounds_toArray, List.set_cons_zero, List.set_cons_succ, i64_w, i32_w]
  rfl
 refine done_ (done_of HT_.out (by kernel_rfl)) ?_
 clear HT_ HW_ hHeld
 generalize V18.setCell ⟨gy, 0, none⟩ (.slice Ay want.length cy) = V18s at *
 have Ry_ty := am_ (Kd.S_mono (ok' := fun j => V17.heap.size ≤ j ∧ j < V18s.heap.size ∧ j ≠ gy) Ry_sy.out (fun j hj => ⟨hj.1, by have := hj.2.1; omega, hj.2.2⟩))
 clear Ry_sy
 have NGy := am_ (show V17.heap.size ≤ gy ∧ gy < V18s.heap.size from ⟨hgx, by omega⟩)
 clear hgx hgl hz
 have QV18s := am_ (show w.heap.size ≤ V18s.heap.size from HB_sy.out.size)
 have hl0 : V18s.cell? ⟨gy, 0, none⟩ = some (.slice Ay want.length cy) := (blk_cell By_sy.out 0).trans rfl
 have hl1 : V18s.cell? ⟨gw, 0, none⟩ = some (.slice Aw want.length cw) := (blk_cell Bw_sy.out 0).trans rfl
 go_wp2_with (go_at_call 32; refine park ?_)
 clear hl0 hl1
 refine ⟨?_⟩
 refine (laws_eqProg.calls k _ _ want _ _ want true _ (Kd.S_reads' Ry_ty.out).2.2 (Kd.S_reads' Ry_ty.out).2.1 (Kd.S_reads' Rw_sy.out).2.2 (Kd.S_reads' Rw_sy.out).2.1 Geqw.out).mono ?_
 rintro e V19 ⟨rfl, hb⟩
 have Rw_22 := am_ (Kd.S_below Rw_sy.out hb)
 have Rg_22 := am_ (Kd.S_below Rg_sy.out hb)
 have Ry_22 := am_ (Kd.S_below Ry_ty.out hb)
 have BL0_22 := am_ (blk_below BL0_sy.out hb)
 have BL1_22 := am_ (blk_below BL1_sy.out hb)
 have Bw_22 := am_ (blk_below Bw_sy.out hb)
 have Bx_22 := am_ (blk_below Bx_sy.out hb)
 have Bz_22 := am_ (blk_below Bz_sy.out hb)
 have Bg_22 := am_ (blk_below Bg_sy.out hb)
 have By_22 := am_ (blk_below By_sy.out hb)
 have HB_22 := am_ (below_then HB_sy.out HB_sy.out.size hb)
 clear Rw_sy Rg_sy Ry_ty BL0_sy BL1_sy Bw_sy Bx_sy Bz_sy Bg_sy By_sy HB_sy hb
 have hl0 : V19.cell? ⟨gg, 0, none⟩ = some (.slice Ag want.length cg) := (blk_cell Bg_22.out 0).trans rfl
 go_wp2_with (go_at_call 34; refine park ?_)
 clear hl0
 refine ⟨?_⟩
 have QV19 := am_ (show w.heap.size ≤ V19.heap.size from HB_22.out.size)
 have hw2 := (Kd.S_reads' Rg_22.out)
 rw [EL.out] at hw2 ⊢
 refine (laws_heldProg.calls k _ _ w2 1 m _ hw2.2.2 hw2.2.1 Gheld.out).mono ?_
 rintro e V20 ⟨rfl, hb⟩
 have Rw_23 := am_ (Kd.S_below Rw_22.out hb)
 have Rg_23 := am_ (Kd.S_below Rg_22.out hb)
 have Ry_23 := am_ (Kd.S_below Ry_22.out hb)
 have BL0_23 := am_ (blk_below BL0_22.out hb)
 have BL1_23 := am_ (blk_below BL1_22.out hb)
 have Bw_23 := am_ (blk_below Bw_22.out hb)
 have Bx_23 := am_ (blk_below Bx_22.out hb)
 have Bz_23 := am_ (blk_below Bz_22.out hb)
 have Bg_23 := am_ (blk_below Bg_22.out hb)
 have By_23 := am_ (blk_below By_22.out hb)
 have HB_23 := am_ (below_then HB_22.out HB_22.out.size hb)
 clear Rw_22 Rg_22 Ry_22 BL0_22 BL1_22 Bw_22 Bx_22 Bz_22 Bg_22 By_22 HB_22 hb hw2
 go_wp2_with fail
 refine bodyPost_ret (results_tmp rfl _ _ _) rfl ?_
 exact ⟨rfl, HB_23.out⟩
def laws_FnExactTurnBeside.Pure : Prop := ∀ (l l2 : List (List S130)), l.length ≤ 9223372036854775807 → (∀ t ∈ l, t.length ≤ 9223372036854775807) → l2.length ≤ 9223372036854775807 → (∀ t ∈ l2, t.length ≤ 9223372036854775807) → ∃ k p q want p1 q1 w2 told left left2 k1 k2 m, laws_FnExactTurnBeside.Facts k l l2 p q want p1 q1 w2 told left left2 k1 k2 m
theorem laws_FnExactTurnBeside.walk (P : laws_FnExactTurnBeside.Pure) (A0 : Option Addr) (c0 : Nat) (l : List (List S130)) (A1 : Option Addr) (c1 : Nat) (l2 : List (List S130)) (w : World) (hr0 : Kd.C (Kd.slice 130 k130) w A0 l.length l) (hc0 : l.length ≤ c0) (hr1 : Kd.C (Kd.slice 130 k130) w A1 l2.length l2) (hc1 : l2.length ≤ c1) :
  Calls Try.prog 11 #[.agg #[.slice A0 l.length c0], .agg #[.slice A1 l2.length c1]] w fun e w' => e = .returned (.bool true) ∧ Below w.heap.size w w' := by
 obtain ⟨k, p, q, want, p1, q1, w2, told, left, left2, k1, k2, m, h⟩ := P l l2 hr0.2.1 (fun t ht => by
  obtain ⟨j, hj, rfl⟩ := List.getElem_of_mem ht
  obtain ⟨ad, _, hc⟩ := hr0.2.2 (by omega)
  obtain ⟨c, _, hK, _⟩ := hc j _ (List.getElem?_eq_getElem hj)
  obtain ⟨A, c', _, _, hC⟩ := (show ((Kd.slice 130 k130)).K w l[j] c from hK)
  exact hC.2.1) hr1.2.1 (fun t ht => by
  obtain ⟨j, hj, rfl⟩ := List.getElem_of_mem ht
  obtain ⟨ad, _, hc⟩ := hr1.2.2 (by omega)
  obtain ⟨c, _, hK, _⟩ := hc j _ (List.getElem?_eq_getElem hj)
  obtain ⟨A, c', _, _, hC⟩ := (show ((Kd.slice 130 k130)).K w l2[j] c from hK)
  exact hC.2.1)
 exact laws_FnExactTurnBeside.calls k A0 c0 l A1 c1 l2 w p q want p1 q1 w2 told left left2 k1 k2 m hr0 hc0 hr1 hc1 h


end Go.Proofs.Ytefkbmhkhpekjaa.PB

-- Written by this session's wip/myprint.py (the kit's print.py, with hand-written chunks). Lean checks it.
import Derived.Test.YtefkbmhkhpekjaaPBx0
import Derived.Test.YtefkbmhkhpekjaaPBx98
namespace Go.Proofs.Ytefkbmhkhpekjaa.PB
open Go.RowKit Go.Proofs.YtefkbmhkhpekjaaW.PrintWords Go.Proofs.YtefkbmhkhpekjaaW.PrintLast Go.Proofs.YtefkbmhkhpekjaaW.PrintMore
attribute [local go_sem] max2_int min2_int max_two min_two max_three min_three max_four min_four   -- for this text's walks alone
open Go.Proofs.YtefkbmhkhpekjaaMine
set_option linter.unusedVariables false
set_option linter.unusedSimpArgs false

theorem z90_1 {p : Prop} (h : p := by repeat (first | (with_reducible first | exact HB.out | apply below_alloc | apply pw_below_drewN | apply below_drew1) | exact HB.out)) : p := h
theorem z90_2 {p : Prop} (h : p := by repeat (first | (with_reducible first | exact HB.out | apply below_alloc | apply pw_below_drewN | apply below_drew1 | refine below_set ?_ GE415.out) | exact HB.out)) : p := h
theorem z90_3 {p : Prop} (h : p := by repeat (first | (with_reducible first | exact HB.out | apply below_alloc | apply pw_below_drewN | apply below_drew1 | refine below_set ?_ GE415.out | refine below_set ?_ GE416.out) | exact HB.out)) : p := h
theorem z90_4 {p : Prop} (h : p := by repeat (first | (with_reducible first | exact HB.out | apply below_alloc | apply pw_below_drewN | apply below_drew1 | refine below_set ?_ GE415.out | refine below_set ?_ GE416.out | refine below_set ?_ GE417.out) | exact HB.out)) : p := h
/-! ### impl_Prog_copied: function 90 -/
def impl_Prog_copied.l0 : Nat → List (List (S85)) → Int → Int → List (List (S85)) → Option ((List (List (S85))))
  | 0, _, _, _, _ => none
  | k + 1, x7, x8, x9, x418000 => if x9 < x8 then (if 0 ≤ x9 then (if x9 < (x7.length : Int) then ((impl_Do_98.f (rd_L7 x7 x9)).bind fun t419 => (if x418000.length < 5864062014805 then (impl_Prog_copied.l0 k x7 x8 (wrap64 (x9 + 1)) (x418000 ++ [t419])) else (none))) else (none)) else (none)) else (some x418000)
def impl_Prog_copied.f (k : Nat) (l0_0 : List (List (S85))) : Option ((List (List (S85)))) := impl_Prog_copied.l0 k l0_0 (l0_0.length : Int) 0 ([] : List (List (S85)))
theorem impl_Prog_copied.mono_l : ∀ k, (∀ y0 y1 y2 y3, LeO (impl_Prog_copied.l0 k y0 y1 y2 y3) (impl_Prog_copied.l0 (k + 1) y0 y1 y2 y3))
  | 0 => fun _ _ _ _ r h => by simp [impl_Prog_copied.l0] at h
  | k + 1 => by
    have ih0 := impl_Prog_copied.mono_l k
    · intro y0 y1 y2 y3
      unfold impl_Prog_copied.l0
      repeat' first
      | (with_reducible exact ih0 _ _ _ _)
      | (with_reducible exact LeO.refl _)
      | (with_reducible exact LeO.none _)
      | (with_reducible refine LeO.ite ?_ ?_)
      | (with_reducible refine LeO.bind ?_ (fun _ => ?_))
      | exact ih0 _ _ _ _
      | exact LeO.none _
      | refine LeO.ite ?_ ?_
      | refine LeO.bind ?_ (fun _ => ?_)
theorem impl_Prog_copied.mono : ∀ a0 k, LeO (impl_Prog_copied.f k a0) (impl_Prog_copied.f (k + 1) a0) := by
  intro a0 k
  have ih0 := impl_Prog_copied.mono_l k
  unfold impl_Prog_copied.f
  repeat' first
      | (with_reducible exact ih0 _ _ _ _)
      | (with_reducible exact LeO.refl _)
      | (with_reducible exact LeO.none _)
      | (with_reducible refine LeO.ite ?_ ?_)
      | (with_reducible refine LeO.bind ?_ (fun _ => ?_))
      | exact ih0 _ _ _ _
      | exact LeO.none _
      | refine LeO.ite ?_ ?_
      | refine LeO.bind ?_ (fun _ => ?_)
def impl_Prog_copied.T5 : Bool × List (List Nat × List Nat) := (true, [([], []), ([0], [0]), ([], []), ([2], [2]), ([3], [3]), ([1, 4, 3], [1, 4]), ([0, 1, 2, 3, 4, 5], []), ([6, 5, 5, 0, 1, 2, 3, 4, 5], [5, 6])])
def impl_Prog_copied.B5 : List Nat := [0, 1, 0, 4, 12, 31, 63, 127]
theorem impl_Prog_copied.tab5 : rtab .any (opsOf Try.f90 5) = impl_Prog_copied.T5 := by kernel_rfl
theorem impl_Prog_copied.bits5 : waitsOk impl_Prog_copied.T5.2 impl_Prog_copied.B5 = true := by kernel_rfl
set_option maxHeartbeats 8000000 in
set_option maxRecDepth 100000 in
theorem impl_Prog_copied.calls (k : Nat) (A0_0 : Option Addr) (c0_0 : Nat) (l0_0 : List (List (S85))) (r : List (List (S85))) (w : World) (hr0_0 : Kd.C (Kd.slice 85 k85) w A0_0 l0_0.length l0_0) (hc0_0 : l0_0.length ≤ c0_0) (h : impl_Prog_copied.f k l0_0 = some r) :
  Calls Try.prog 90 #[.agg #[.slice A0_0 l0_0.length c0_0]] w fun e w' => ∃ v0_ : Value, e = .returned (.agg #[v0_]) ∧ Kd.S (Kd.slice 85 k85) 82 w' w.heap.size (fun _ => True) v0_ r ∧ Below w.heap.size w w' := by
 have hu35 := Try.underlying35
 have HR0_0 := am_ hr0_0
 have HC0_0 := am_ hc0_0
 clear hr0_0 hc0_0
 have HB := am_ (Below.refl w.heap.size w)
 have H : (impl_Prog_copied.l0 k l0_0 (l0_0.length : Int) 0 ([] : List (List (S85)))) = some r := h
 clear h
 have H' := am_ H
 clear H
 go_enter Try.func90, Try.ntmps90
 go_wp2_with (first | ((with_reducible refine gate_dst (N := 1) rfl ?_); refine box_event ?hg (N := 1) ?hd (cs := #[.slice A0_0 l0_0.length c0_0]) (t := 35) ?hr ?_; (case hd => rfl); (case hg => rfl); (case hr => first | (go_simp; done) | (go_simp; rfl)); intro gb415 hg w2 hbox hb; have n0_ := am_ (below_step z90_1 hb); have n1_ := am_ (hbox); have n2_ := am_ (by rw [hg]; exact (below_size z90_1) : w.heap.size ≤ gb415); have n3_ := am_ (by rw [hg]; exact (below_size z90_1) : w.heap.size ≤ gb415); clear HB; have HB := n0_; have BK415 := n1_; have GW415 := n2_; have GE415 := n3_; clear n0_ n1_ n2_ n3_; clear hb hbox hg) | ((with_reducible refine gate_dst (N := 2) rfl ?_); refine box_event ?hg (N := 2) ?hd (cs := #[.slice none 0 0]) (t := 35) ?hr ?_; (case hd => rfl); (case hg => rfl); (case hr => first | (go_simp; done) | (go_simp; rfl)); intro gb416 hg w3 hbox hb; have n0_ := am_ (blk_below (bu BK415.out) hb); have n1_ := am_ (below_step z90_2 hb); have n2_ := am_ (hbox); have n3_ := am_ (by rw [hg]; exact (below_size z90_2) : w.heap.size ≤ gb416); have n4_ := am_ (by rw [hg]; exact (below_size z90_2) : w.heap.size ≤ gb416); have n5_ := am_ (by rw [hg]; exact Nat.ne_of_lt (blk_lt (bu BK415.out)) : gb415 ≠ gb416); have n6_ := am_ (by rw [hg]; exact Nat.ne_of_gt (blk_lt (bu BK415.out)) : gb416 ≠ gb415); clear BK415 HB; have BK415 := n0_; have HB := n1_; have BK416 := n2_; have GW416 := n3_; have GE416 := n4_; have NB415_416 := n5_; have NB416_415 := n6_; clear n0_ n1_ n2_ n3_ n4_ n5_ n6_; clear hb hbox hg) | ((with_reducible refine gate_dst (N := 3) rfl ?_); refine box_event ?hg (N := 3) ?hd (cs := #[.slice none 0 0]) (t := 35) ?hr ?_; (case hd => rfl); (case hg => rfl); (case hr => first | (go_simp; done) | (go_simp; rfl)); intro gb417 hg w4 hbox hb; have n0_ := am_ (blk_below (bu BK415.out) hb); have n1_ := am_ (blk_below (bu BK416.out) hb); have n2_ := am_ (below_step z90_3 hb); have n3_ := am_ (hbox); have n4_ := am_ (by rw [hg]; exact (below_size z90_3) : w.heap.size ≤ gb417); have n5_ := am_ (by rw [hg]; exact (below_size z90_3) : w.heap.size ≤ gb417); have n6_ := am_ (by rw [hg]; exact Nat.ne_of_lt (blk_lt (bu BK415.out)) : gb415 ≠ gb417); have n7_ := am_ (by rw [hg]; exact Nat.ne_of_gt (blk_lt (bu BK415.out)) : gb417 ≠ gb415); have n8_ := am_ (by rw [hg]; exact Nat.ne_of_lt (blk_lt (bu BK416.out)) : gb416 ≠ gb417); have n9_ := am_ (by rw [hg]; exact Nat.ne_of_gt (blk_lt (bu BK416.out)) : gb417 ≠ gb416); clear BK415 BK416 HB; have BK415 := n0_; have BK416 := n1_; have HB := n2_; have BK417 := n3_; have GW417 := n4_; have GE417 := n5_; have NB415_417 := n6_; have NB417_415 := n7_; have NB416_417 := n8_; have NB417_416 := n9_; clear n0_ n1_ n2_ n3_ n4_ n5_ n6_ n7_ n8_ n9_; clear hb hbox hg; have hnb5 := NB415_416.out; have hnc5 := NB416_415.out; have hnb6 := NB415_417.out; have hnc6 := NB417_415.out; have hcz7_0 : w4.cell? ⟨gb415, 0, none⟩ = some (.slice A0_0 l0_0.length c0_0) := (blk_cell BK415.out 0).trans rfl; have hfz7_0 := blk_frozen BK415.out 0))
 go_loopg [9] k (fun kq v9 w' => ∃ (x9_1 : Int) (x418000_1 : List (List (S85))) (u418000 : Value), v9 = .int .i64 x9_1 ∧ Aside0 (impl_Prog_copied.l0 kq l0_0 (l0_0.length : Int) x9_1 x418000_1 = some r) ∧ Aside0 (kq ≤ k) ∧ Aside0 (Kd.S (Kd.slice 85 k85) 82 w' w.heap.size (fun _ => True) u418000 x418000_1) ∧ Aside0 (w'.heap[gb415]? = some (.cells #[(.slice A0_0 l0_0.length c0_0)] 35 (0, 0))) ∧ Aside0 (w'.heap[gb416]? = some (.cells #[(.slice none 0 0)] 35 (0, 0))) ∧ Aside0 (w'.heap[gb417]? = some (.cells #[u418000] 35 (0, 0))) ∧ Aside0 (Below w.heap.size w w'))
 case atStart => exact ⟨(0), (([] : List (List (S85)))), (.slice none 0 0), (by first | rfl | (simp; done) | (simp [*]; done)), H', ⟨Nat.le_refl _⟩, ⟨by first | exact Kd.S_nil _ _ _ _ _ | exact Kd.N_nil _ _ _ _ _ | exact Kd.V_nil _ _ _ _ _ | exact Kd.Q_nil _ _ _ _ _ | exact Kd.R_nil _ _ _ _ _⟩, ⟨bu BK415.out⟩, ⟨bu BK416.out⟩, ⟨bu BK417.out⟩, ⟨z90_4⟩⟩
 case round =>
  clear H'
  obtain ⟨x9_1, x418000_1, u418000, rfl, HA, HK1, HO_418000, BK415, BK416, BK417, HB⟩ := hrel
  cases gk with
  | zero => exact absurd HA.out (by simp [impl_Prog_copied.l0])
  | succ k1 =>
   have H := HA.out
   clear HA
   simp only [impl_Prog_copied.l0] at H
   by_cases c8 : x9_1 < (l0_0.length : Int)
   ·rw [if_pos c8] at H
    have c8b0 : decide (x9_1 < (l0_0.length : Int)) = true := decide_eq_true c8
    clear c8
    by_cases c9 : 0 ≤ x9_1
    ·rw [if_pos c9] at H
     have c9b0 : decide (0 ≤ x9_1) = true := decide_eq_true c9
     clear c9
     by_cases c10 : x9_1 < (l0_0.length : Int)
     ·rw [if_pos c10] at H
      have c10b0 : decide (x9_1 < (l0_0.length : Int)) = true := decide_eq_true c10
      clear c10
      replace H := Option.bind_eq_some_iff.mp H
      obtain ⟨t419, A110, H⟩ := H
      replace H : (if x418000_1.length < 5864062014805 then (impl_Prog_copied.l0 k1 l0_0 (l0_0.length : Int) (wrap64 (x9_1 + 1)) (x418000_1 ++ [t419])) else (none)) = some r := H
      have A11 := am_ A110
      clear A110
      by_cases c12 : x418000_1.length < 5864062014805
      ·rw [if_pos c12] at H
       have LMc12 := am_ c12
       clear c12
       obtain ⟨y422, hy422⟩ : ∃ y_ : List (List (S85)), y_ = (x418000_1 ++ [t419]) := ⟨_, rfl⟩
       replace H : (impl_Prog_copied.l0 k1 l0_0 (l0_0.length : Int) (wrap64 (x9_1 + 1)) y422) = some r := by first | (rw [hy422]; with_reducible exact H) | (have H2_ := (Option.bind_some _ _).symm.trans H; rw [hy422]; with_reducible exact H2_) | (have H2_ := (Option.bind_some _ _).symm.trans H; with_reducible exact H2_) | with_reducible exact H | (rw [hy422]; exact H) | exact H
       have Ny422 := am_ hy422
       clear hy422
       have H' := am_ H
       clear H
       have p418 : 0 ≤ (x9_1 : Int) := of_decide_eq_true (by first | (with_reducible assumption) | assumption)
       have q418 : x9_1 < (l0_0.length : Int) := of_decide_eq_true (by first | (with_reducible assumption) | assumption)
       obtain ⟨ad418, A418_0, c418_0, e418, hx418_0, hl418_0, hi418_0⟩ := at_L7 HR0_0.out x9_1 p418 q418
       cases e418
       replace hx418_0 := (HB.out.cell (World.block_lt_of_cell? w _ hx418_0)).trans hx418_0
       have HR418_0 := am_ hi418_0
       have HC418_0 := am_ hl418_0
       clear hi418_0 hl418_0
       replace p418 := eq_true p418
       replace q418 := eq_true q418
       try go_wp2
       have n0_ := am_ (Kd.S_drew HO_418000.out)
       have n1_ := am_ (blk_drew BK415.out)
       have n2_ := am_ (blk_drew BK416.out)
       have n3_ := am_ (blk_drew BK417.out)
       have n4_ := am_ (below_drew1 HB.out)
       clear HO_418000 BK415 BK416 BK417 HB
       have HO_418000 := n0_
       have BK415 := n1_
       have BK416 := n2_
       have BK417 := n3_
       have HB := n4_
       clear n0_ n1_ n2_ n3_ n4_
       refine start_ (n := 8) (S := fun w' => w'.cell? ⟨gb417, 0, none⟩ = some (u418000)) (ds := [7]) #[false, false, false, false, false, false, false, false] (by kernel_rfl) rfl rfl ((blk_cell BK417.out 0).trans rfl) (fun hHeld => ?_); refine with_tabW impl_Prog_copied.tab5 impl_Prog_copied.bits5 (fun HT_ HW_ => ?_)
       generalize wr.drew = w13 at HO_418000 BK415 BK416 BK417 HB hHeld ⊢
       refine pure_ (i := 0) (N := some 13) (v := ?_) (a' := ?_) #[true, false, false, false, false, false, false, false] rfl rfl (any_of HT_.out (by kernel_rfl)) (fun _ _ _ h => h) (Or.inl ⟨by rfl, ?_⟩) ?_ ?_
       rotate_left
       ·intro w'
        go_simp
        with_reducible rfl
       rotate_left
       ·simp only [Act.put, List.setIfInBounds_toArray, List.set_cons_zero, List.set_cons_succ, i64_w, i32_w]
        rfl
       refine pure_ (i := 2) (N := some 15) (v := ?_) (a' := ?_) #[true, false, true, false, false, false, false, false] rfl rfl (any_of HT_.out (by kernel_rfl)) (fun _ _ _ h => h) (Or.inl ⟨by rfl, ?_⟩) ?_ ?_
       rotate_left
       ·intro w'
        go_simp
        with_reducible rfl
       rotate_left
       ·simp only [Act.put, List.setIfInBounds_toArray, List.set_cons_zero, List.set_cons_succ, i64_w, i32_w]
        rfl
       refine take_ (i := 1) (N := some 14) (v := ?_) (a' := ?_) #[true, true, true, false, false, false, false, false] rfl rfl (take_ofW HT_.out HW_.out (by kernel_rfl)) (fun _ _ _ h => h) (Or.inl ⟨by rfl, ?_⟩) hHeld ?_ ?_
       rotate_left
       ·intro w' s0
        go_simp
        with_reducible rfl
       rotate_left
       ·simp only [Act.put, List.setIfInBounds_toArray, List.set_cons_zero, List.set_cons_succ, i64_w, i32_w]
        rfl
       refine one_ (i := 3) (N := some 16) #[true, true, true, true, false, false, false, false] rfl rfl (one_of HT_.out (by kernel_rfl)) (by decide) (fun K hK => ?_)
       refine goes_ Try.func98 (by kernel_rfl) rfl #[.slice A418_0 (rd_L7 l0_0 x9_1).length c418_0] (by rfl) rfl rfl (by (try simp only [List.map_toArray, List.map_cons, List.map_nil]); first | done | rfl | (simp only [List.length_drop, List.length_take]; rfl)) ?_
       with_reducible refine (impl_Do_98.calls _ _ (rd_L7 l0_0 x9_1) t419 _ ?side1 ?side2 A11.out).mono ?_
       (case side1 => repeat (first | exact (Kd.C_below HR418_0.out HB.out) | (with_reducible refine Kd.C_alloc ?_ _) | (with_reducible refine Kd.C_drewN ?_ _) | (with_reducible refine Kd.C_drew ?_)))
       (case side2 => exact HC418_0.out)
       rintro e w14 ⟨v420, rfl, ho0, hb⟩
       refine ⟨_, rfl, ?_⟩
       have n0_ := am_ (Kd.S_elder' (su HO_418000.out) (Kd.R_base ho0) hb)
       have n1_ := am_ (Kd.R_lower ho0 (below_size z90_4))
       have n2_ := am_ (blk_below (bu BK415.out) hb)
       have n3_ := am_ (blk_below (bu BK416.out) hb)
       have n4_ := am_ (blk_below (bu BK417.out) hb)
       have n5_ := am_ (below_step z90_4 hb)
       clear HO_418000 BK415 BK416 BK417 HB
       have HO_418000 := n0_
       have HO421 := n1_
       have BK415 := n2_
       have BK416 := n3_
       have BK417 := n4_
       have HB := n5_
       clear n0_ n1_ n2_ n3_ n4_ n5_
       (try clear hb)
       (try clear hb2)
       (try clear hk)
       (try clear hi)
       (try clear ho0)
       obtain ⟨Ao16, co16, eo16⟩ := Kd.R_slice HO421.out
       (first | subst eo16 | (injection eo16 with f1_ f2_ f3_; have f4_ := f1_.symm; have f5_ := f3_.symm; clear f1_ f2_ f3_; subst f4_; subst f5_))
       refine hK.out _ _ ((blk_cell BK417.out 0).trans rfl) (fun hHeld => ?_)
       clear hK K
       refine norm_ (a' := ?_) ?_ ?_
       rotate_left
       ·show Act.put _ (some 16) _ = _
        simp only [Act.put, List.setIfInBounds_toArray, List.set_cons_zero, List.set_cons_succ, i64_w, i32_w]
        rfl
       refine one_ (i := 4) (N := some 17) #[true, true, true, true, true, false, false, false] rfl rfl (one_of HT_.out (by kernel_rfl)) (by decide) (fun K hK => ?_)
       refine value_ (w1 := ?_) (v := ?_) (by rfl) rfl ?_ ?_
       rotate_left 2
       ·go_simp
        constructor
        ·rfl
        ·rfl
       refine hK.out _ _ ((blk_cell (blk_alloc BK417.out _) 0).trans rfl) (fun hHeld => ?_)
       clear hK K
       refine norm_ (a' := ?_) ?_ ?_
       rotate_left
       ·show Act.put _ (some 17) _ = _
        simp only [Act.put, List.setIfInBounds_toArray, List.set_cons_zero, List.set_cons_succ, i64_w, i32_w]
        rfl
       refine one_ (i := 5) (N := some 18) #[true, true, true, true, true, true, false, false] rfl rfl (one_of HT_.out (by kernel_rfl)) (by decide) (fun K hK => ?_)
       refine Kd.S_append_step (Kd.slice 85 k85) (w0 := w) w.heap.size (by rfl) (.tmp 14) (.tmp 17) 33 82 (.slice none 0 0) 24 rfl Try.underlying33 info82 rfl (by decide) (by omega) u418000 x418000_1 t419 [.slice Ao16 t419.length co16] (fun _ => True) (fun k_ => some k_ = (.slice Ao16 t419.length co16 : Value).ownBlock) rfl rfl ?aP (fun k_ hk_ => ((Kd.R_mono (ok' := fun k_ => ((fun _ => True)) k_ ∧ some k_ ≠ (u418000 : Value).ownBlock) (Kd.R_apart' (HO421.out) (Kd.S_typed HO_418000.out) (by decide)) (fun k_ hk => ⟨trivial, hk.2⟩))).1 k_ hk_.symm) ?aF ?aO ?aB ?aS ?aL ?_
       (case aP => exact Kd.M_row (Kd.R_mono (Kd.R_tight rfl (Kd.R_mono (ok' := fun k_ => ((fun _ => True)) k_ ∧ some k_ ≠ (u418000 : Value).ownBlock) (Kd.R_apart' (HO421.out) (Kd.S_typed HO_418000.out) (by decide)) (fun k_ hk => ⟨trivial, hk.2⟩))) (fun _ h_ => h_)))
       (case aB => exact z90_4)
       (case aF => exact (fun _ _ => trivial))
       (case aO => exact (su (Kd.S_mono HO_418000.out (fun k_ hk => ⟨trivial, fun e_ => hk.2 e_⟩))))
       (case aS => exact (below_size z90_4))
       (case aL => have := LMc12.out; omega)
       intro v423 w15 ho hb hg hat
       rw [← Ny422.out] at ho
       have n0_ := am_ (blk_grown (bu BK415.out) hg (Kd.S_ne HO_418000.out BK415.out (by decide)))
       have n1_ := am_ (blk_grown (bu BK416.out) hg (Kd.S_ne HO_418000.out BK416.out (by decide)))
       have n2_ := am_ (blk_grown (bu BK417.out) hg (Kd.S_ne HO_418000.out BK417.out (by decide)))
       have n3_ := am_ (hb)
       have n4_ := am_ (ho)
       clear BK415 BK416 BK417 HB HO_418000 HO421
       have BK415 := n0_
       have BK416 := n1_
       have BK417 := n2_
       have HB := n3_
       have HO424 := n4_
       clear n0_ n1_ n2_ n3_ n4_ ho hb hg hat
       obtain ⟨Ao17, co17, eo17⟩ := Kd.S_slice HO424.out
       (first | subst eo17 | (injection eo17 with f1_ f2_ f3_; have f4_ := f1_.symm; have f5_ := f3_.symm; clear f1_ f2_ f3_; subst f4_; subst f5_))
       refine hK.out _ _ ((blk_cell BK417.out 0).trans rfl) (fun hHeld => ?_)
       clear hK K
       refine norm_ (a' := ?_) ?_ ?_
       rotate_left
       ·show Act.put _ (some 18) _ = _
        simp only [Act.put, List.setIfInBounds_toArray, List.set_cons_zero, List.set_cons_succ, i64_w, i32_w]
        rfl
       refine pure_ (i := 6) (N := some 19) (v := ?_) (a' := ?_) #[true, true, true, true, true, true, true, false] rfl rfl (any_of HT_.out (by kernel_rfl)) (fun _ _ _ h => h) (Or.inl ⟨by rfl, ?_⟩) ?_ ?_
       rotate_left
       ·intro w'
        go_simp
        with_reducible rfl
       rotate_left
       ·simp only [Act.put, List.setIfInBounds_toArray, List.set_cons_zero, List.set_cons_succ, i64_w, i32_w]
        rfl
       refine last_ (i := 7) (N := none) #[true, true, true, true, true, true, true, true] rfl rfl (one_of HT_.out (by kernel_rfl)) (by decide) (fun K hK => ?_)
       have hs18 : w15.cell? ⟨gb417, 0, none⟩ = some (u418000) := (blk_cell BK417.out 0).trans rfl
       have hfs18 := blk_frozen BK417.out 0
       have hns18_0 := NB415_417.out
       have hns18_1 := NB416_417.out
       have hms18_0 := NB417_415.out
       have hms18_1 := NB417_416.out
       refine skip_ (w1 := ?_) (by rfl) rfl ?_ ?_
       rotate_left
       ·go_simp
        rfl
       refine hK.out _ _ ?_
       clear hK K
       refine done_ (done_of HT_.out (by kernel_rfl)) ?_
       try go_wp2
       go_roundg k1
       case measure => have := HK1.out; omega
       case rel => exact ⟨(wrap64 (x9_1 + 1)), (y422), (.slice Ao17 y422.length co17), (by first | rfl | (simp; done) | (simp [*]; done)), H', ⟨by have := HK1.out; omega⟩, ⟨su (Kd.S_mono (Kd.S_far (p := ⟨gb417, 0, none⟩) (Kd.S_types HO424.out BK417.out (by decide)) (fun _ hk => hk.2) (.slice Ao17 y422.length co17)) (fun _ hk => trivial))⟩, ⟨by (with_reducible repeat (first | refine blk_drewN ?_ _ | refine blk_drew ?_ | refine blk_alloc ?_ _)); refine blk_far ?_ NB415_417.out _; (with_reducible repeat (first | refine blk_drewN ?_ _ | refine blk_drew ?_ | refine blk_alloc ?_ _)); exact BK415.out⟩, ⟨by (with_reducible repeat (first | refine blk_drewN ?_ _ | refine blk_drew ?_ | refine blk_alloc ?_ _)); refine blk_far ?_ NB416_417.out _; (with_reducible repeat (first | refine blk_drewN ?_ _ | refine blk_drew ?_ | refine blk_alloc ?_ _)); exact BK416.out⟩, ⟨by (with_reducible repeat (first | refine blk_drewN ?_ _ | refine blk_drew ?_ | refine blk_alloc ?_ _)); refine blk_put (cs := #[u418000]) ?_ 0 _ rfl; (with_reducible repeat (first | refine blk_drewN ?_ _ | refine blk_drew ?_ | refine blk_alloc ?_ _)); exact BK417.out⟩, ⟨z90_4⟩⟩
      ·rw [if_neg c12] at H
       exact absurd H (by simp)
     ·rw [if_neg c10] at H
      exact absurd H (by simp)
    ·rw [if_neg c9] at H
     exact absurd H (by simp)
   ·rw [if_neg c8] at H
    have c8b0 : decide (x9_1 < (l0_0.length : Int)) = false := decide_eq_false c8
    clear c8
    obtain rfl := Option.some.inj H
    have hnb19 := NB417_415.out
    have hnc19 := NB415_417.out
    have hnb20 := NB417_416.out
    have hnc20 := NB416_417.out
    have hcz21_0 : wr.cell? ⟨gb417, 0, none⟩ = some (u418000) := (blk_cell BK417.out 0).trans rfl
    have hfz21_0 := blk_frozen BK417.out 0
    obtain ⟨Ao22, co22, eo22⟩ := Kd.S_slice HO_418000.out
    subst eo22
    have hnb23 := NB416_415.out
    have hnc23 := NB415_416.out
    have hcz24_0 : wr.cell? ⟨gb416, 0, none⟩ = some (.slice none 0 0) := (blk_cell BK416.out 0).trans rfl
    have hfz24_0 := blk_frozen BK416.out 0
    go_wp2
    refine bodyPost_ret (results_cell_row rfl _ _ gb416 35 #[.slice Ao22 x418000_1.length co22] (0, 0) _ rfl (by (with_reducible repeat (first | refine blk_drewN ?_ _ | refine blk_drew ?_ | refine blk_alloc ?_ _)); refine blk_put (cs := #[.slice none 0 0]) ?_ 0 _ rfl; (with_reducible repeat (first | refine blk_drewN ?_ _ | refine blk_drew ?_ | refine blk_alloc ?_ _)); exact BK416.out) Try.underlying35 rfl (by kernel_rfl)) rfl ?_
    exact ⟨_, by first | rfl | (simp [errW_none, errW_some] <;> rfl) | (simp [*, errW_none, errW_some] <;> rfl), su (Kd.S_mono (Kd.S_far (p := ⟨gb416, 0, none⟩) (Kd.S_types HO_418000.out BK416.out (by decide)) (fun _ hk => hk.2) (.slice Ao22 x418000_1.length co22)) (fun _ hk => trivial)), z90_4⟩

end Go.Proofs.Ytefkbmhkhpekjaa.PB

-- Joined by wip/mclaim.py out of YtefkbmhkhpekjaaPBx46, YtefkbmhkhpekjaaPBx133, YtefkbmhkhpekjaaPBx120, YtefkbmhkhpekjaaPBx97, YtefkbmhkhpekjaaPBx98, YtefkbmhkhpekjaaPBx47, YtefkbmhkhpekjaaPBx90, YtefkbmhkhpekjaaPBx82, YtefkbmhkhpekjaaPBx48, YtefkbmhkhpekjaaPBx100, YtefkbmhkhpekjaaPBx49, YtefkbmhkhpekjaaPBx12
import Derived.Test.YtefkbmhkhpekjaaPBx0
import Derived.Test.YtefkbmhkhpekjaaPBx70
import Derived.Test.YtefkbmhkhpekjaaJFnTurnOkx1
import Derived.Test.YtefkbmhkhpekjaaPBx31
import Derived.Test.YtefkbmhkhpekjaaPBx78
import Derived.Test.YtefkbmhkhpekjaaPBx43
namespace Go.Proofs.Ytefkbmhkhpekjaa.PB
open Go.RowKit Go.Proofs.YtefkbmhkhpekjaaW.PrintWords Go.Proofs.YtefkbmhkhpekjaaW.PrintLast Go.Proofs.YtefkbmhkhpekjaaW.PrintMore
attribute [local go_sem] max2_int min2_int max_two min_two max_three min_three max_four min_four   -- for this text's walks alone
open Go.Proofs.YtefkbmhkhpekjaaMine
set_option linter.unusedVariables false
set_option linter.unusedSimpArgs false

theorem z46_1 {p : Prop} (h : p := by repeat (first | (with_reducible first | exact HB.out | apply below_alloc | apply pw_below_drewN | apply below_drew1) | exact HB.out)) : p := h
theorem z46_2 {p : Prop} (h : p := by repeat (first | (with_reducible first | exact HI996.out | apply IsS116.alloc | apply IsS116.drewN | apply IsS116.drew | apply IsS116.set_1 | refine IsS116.far ?_ NB996_993.out _) | exact HI996.out)) : p := h
theorem z46_3 {p : Prop} (h : p := by repeat (first | (with_reducible first | exact HB.out | apply below_alloc | apply pw_below_drewN | apply below_drew1 | refine below_set ?_ (IsS116.ge HI996.out) | refine below_set ?_ GE993.out) | exact HB.out)) : p := h
theorem z46_4 {p : Prop} (h : p := by repeat (first | (with_reducible first | exact HB.out | apply below_alloc | apply pw_below_drewN | apply below_drew1 | refine below_set ?_ (IsS116.ge HI996.out) | refine below_set ?_ GE993.out | refine below_set ?_ GE1001.out) | exact HB.out)) : p := h
/-! ### spec_DrawTurnThreads: function 46 -/
def spec_DrawTurnThreads.f (k : Nat) (l0 : List Int) : Option ((List (List (S85))) × List Int) := (spec_l6Open.f l0).bind fun bt994 => ((spec_l71Any.f k bt994.1 bt994.2).bind fun bt997 => ((spec_l71Row.f k bt994.1 bt997.2 (bt997.1.length : Int)).bind fun bt1002 => (some (bt997.1, bt1002.1))))
theorem spec_DrawTurnThreads.mono : ∀ a0 k, LeO (spec_DrawTurnThreads.f k a0) (spec_DrawTurnThreads.f (k + 1) a0) := by
  intro a0 k
  unfold spec_DrawTurnThreads.f
  repeat' first
      | (with_reducible exact spec_l71Any.mono _ _ _)
      | (with_reducible exact spec_l71Row.mono _ _ _ _)
      | (with_reducible exact LeO.refl _)
      | (with_reducible exact LeO.none _)
      | (with_reducible refine LeO.ite ?_ ?_)
      | (with_reducible refine LeO.bind ?_ (fun _ => ?_))
      | exact spec_l71Any.mono _ _ _
      | exact spec_l71Row.mono _ _ _ _
      | exact LeO.none _
      | refine LeO.ite ?_ ?_
      | refine LeO.bind ?_ (fun _ => ?_)
def spec_DrawTurnThreads.T3 : Bool × List (List Nat × List Nat) := (true, [([], []), ([], []), ([], []), ([2], [2]), ([3], [3]), ([1, 4], [1, 4]), ([0, 5, 0], [0]), ([5, 6, 0, 1, 2, 3, 4, 5, 6], [5])])
def spec_DrawTurnThreads.B3 : List Nat := [0, 0, 0, 4, 12, 30, 63, 127]
theorem spec_DrawTurnThreads.tab3 : rtab .any (opsOf Try.f46 3) = spec_DrawTurnThreads.T3 := by kernel_rfl
theorem spec_DrawTurnThreads.bits3 : waitsOk spec_DrawTurnThreads.T3.2 spec_DrawTurnThreads.B3 = true := by kernel_rfl
set_option maxHeartbeats 8000000 in
set_option maxRecDepth 100000 in
theorem spec_DrawTurnThreads.calls (k : Nat) (A0 : Option Addr) (c0 : Nat) (l0 : List Int) (r1 : List (List (S85))) (r2 : List Int) (w : World) (hr0 : Kd.C (Kd.int .u8) w A0 l0.length l0) (hc0 : l0.length ≤ c0) (h : spec_DrawTurnThreads.f k l0 = some (r1, r2)) :
  Calls Try.prog 46 #[.slice A0 l0.length c0] w fun e w' => ∃ v0_ v1_ : Value, e = .returned (.tuple #[.agg #[v0_], v1_]) ∧ Kd.N (Kd.slice 85 k85) 82 w' w.heap.size (fun k_ => (w.heap.size ≤ k_) ∧ some k_ ≠ (v1_ : Value).ownBlock) v0_ r1 ∧ Kd.R (Kd.int .i64) 3 w' w.heap.size (fun k_ => (w.heap.size ≤ k_)) v1_ r2 ∧ Below w.heap.size w w' := by
 have hu35 := Try.underlying35
 have HR0 := am_ hr0
 have HC0 := am_ hc0
 clear hr0 hc0
 have HB := am_ (Below.refl w.heap.size w)
 have H : ((spec_l6Open.f l0).bind fun bt994 => ((spec_l71Any.f k bt994.1 bt994.2).bind fun bt997 => ((spec_l71Row.f k bt994.1 bt997.2 (bt997.1.length : Int)).bind fun bt1002 => (some (bt997.1, bt1002.1))))) = some (r1, r2) := h
 clear h
 replace H := Option.bind_eq_some_iff.mp H
 obtain ⟨⟨t994, t995⟩, A20, H⟩ := H
 replace H : ((spec_l71Any.f k t994 t995).bind fun bt997 => ((spec_l71Row.f k t994 bt997.2 (bt997.1.length : Int)).bind fun bt1002 => (some (bt997.1, bt1002.1)))) = some (r1, r2) := H
 have A2 := am_ A20
 clear A20
 replace H := Option.bind_eq_some_iff.mp H
 obtain ⟨⟨t997, t1000⟩, A30, H⟩ := H
 replace H : ((spec_l71Row.f k t994 t1000 (t997.length : Int)).bind fun bt1002 => (some (t997, bt1002.1))) = some (r1, r2) := H
 have A3 := am_ A30
 clear A30
 replace H := Option.bind_eq_some_iff.mp H
 obtain ⟨⟨t1002, t1005⟩, A40, H⟩ := H
 replace H : (some (t997, t1002)) = some (r1, r2) := H
 have A4 := am_ A40
 clear A40
 simp only [Option.some.injEq, Prod.mk.injEq] at H
 obtain ⟨rfl, rfl⟩ := H
 go_enter Try.func46, Try.ntmps46
 try go_wp2_with (first | ((with_reducible refine gate_dst (N := 2) rfl ?_); refine box_event ?hg (N := 2) ?hd (cs := #[.slice none 0 0]) (t := 35) ?hr ?_; (case hd => rfl); (case hg => rfl); (case hr => first | (go_simp; done) | (go_simp; rfl)); intro gb993 hg w5 hbox hb; have n0_ := am_ (below_step z46_1 hb); have n1_ := am_ (hbox); have n2_ := am_ (by rw [hg]; exact (below_size z46_1) : w.heap.size ≤ gb993); have n3_ := am_ (by rw [hg]; exact (below_size z46_1) : w.heap.size ≤ gb993); clear HB; have HB := n0_; have BK993 := n1_; have GW993 := n2_; have GE993 := n3_; clear n0_ n1_ n2_ n3_; clear hb hbox hg) | ((with_reducible refine gate_callee (f := 70) rfl ?_); refine goesL_ (some 7) rfl rfl Try.func70 (by kernel_rfl) rfl #[.slice A0 l0.length c0] rfl (by (try simp only [List.map_toArray, List.map_cons, List.map_nil]); first | done | rfl | (simp only [List.length_drop, List.length_take]; rfl)) ?_; (with_reducible refine (spec_l6Open.calls _ _ l0 t994 t995 w _ ?side1 ?side2 ?side3 A2.out).mono ?_); (case side1 => repeat (first | (with_reducible first | exact HB.out | apply below_alloc | apply pw_below_drewN | apply below_drew1 | refine below_set ?_ GE993.out) | exact HB.out)); (case side2 => exact HR0.out); (case side3 => exact HC0.out); rintro e w6 ⟨g996, rfl, hi, hb, hb2⟩; refine ⟨_, rfl, ?_⟩; have n0_ := am_ (blk_below (bu BK993.out) hb2); have n1_ := am_ (hb); have n2_ := am_ (hi); have n3_ := am_ (IsS116.ne_blk hi (blk_below (bu BK993.out) hb2) (by decide)); have n4_ := am_ (Ne.symm (IsS116.ne_blk hi (blk_below (bu BK993.out) hb2) (by decide))); clear BK993 HB; have BK993 := n0_; have HB := n1_; have HI996 := n2_; have NB996_993 := n3_; have NB993_996 := n4_; clear n0_ n1_ n2_ n3_ n4_; (try clear hb); (try clear hb2); (try clear hk); (try clear hi)) | ((with_reducible refine gate_callee (f := 92) rfl ?_); refine goesL_ (some 9) rfl rfl Try.func92 (by kernel_rfl) rfl #[.pointer (some ⟨g996, 0, none⟩)] rfl (by (try simp only [List.map_toArray, List.map_cons, List.map_nil]); first | done | rfl | (simp only [List.length_drop, List.length_take]; rfl)) ?_; (with_reducible refine (spec_l71Any.calls k g996 t994 t995 t997 t1000 w _ ?side1 ?side2 A3.out).mono ?_); (case side1 => repeat (first | (with_reducible first | exact HI996.out | apply IsS116.alloc | apply IsS116.drewN | apply IsS116.drew | apply IsS116.set_1 | refine IsS116.far ?_ NB996_993.out _) | exact HI996.out)); (case side2 => repeat (first | (with_reducible first | exact HB.out | apply below_alloc | apply pw_below_drewN | apply below_drew1 | refine below_set ?_ (IsS116.ge HI996.out) | refine below_set ?_ GE993.out) | exact HB.out)); rintro e w7 ⟨v998, rfl, ho0, hi, hb, hk⟩; refine ⟨_, rfl, ?_⟩; have n0_ := am_ (KeepBut.blk hk (bu BK993.out) NB993_996.out (by simp)); have n1_ := am_ (Kd.N_lower (Kd.N_mono (ok' := fun k_ => (w.heap.size ≤ k_) ∧ k_ ≠ gb993 ∧ k_ ≠ g996) ho0 (fun k_ hk_ => ⟨(Nat.le_trans (below_size z46_3) hk_), (Kd.freshB (bu BK993.out) k_ hk_), (IsS116.fresh z46_2 k_ hk_)⟩)) (below_size z46_3)); have n2_ := am_ (hb); have n3_ := am_ (hi); clear BK993 HB HI996; have BK993 := n0_; have HO999 := n1_; have HB := n2_; have HI996 := n3_; clear n0_ n1_ n2_ n3_; (try clear hb); (try clear hb2); (try clear hk); (try clear hi); (try clear ho0)) | ((with_reducible refine gate_dst (N := 5) rfl ?_); refine box_event ?hg (N := 5) ?hd (cs := #[.slice none 0 0]) (t := 35) ?hr ?_; (case hd => rfl); (case hg => rfl); (case hr => first | (go_simp; done) | (go_simp; rfl)); intro gb1001 hg w8 hbox hb; have n0_ := am_ (Kd.N_below (Kd.N_elderB (nu HO999.out) gb1001 (Nat.le_of_eq hg.symm)) hb); have n1_ := am_ (blk_below (bu BK993.out) hb); have n2_ := am_ (IsS116.below z46_2 hb); have n3_ := am_ (below_step z46_3 hb); have n4_ := am_ (hbox); have n5_ := am_ (by rw [hg]; exact (below_size z46_3) : w.heap.size ≤ gb1001); have n6_ := am_ (by rw [hg]; exact (below_size z46_3) : w.heap.size ≤ gb1001); have n7_ := am_ (by rw [hg]; exact Nat.ne_of_lt (blk_lt (bu BK993.out)) : gb993 ≠ gb1001); have n8_ := am_ (by rw [hg]; exact Nat.ne_of_gt (blk_lt (bu BK993.out)) : gb1001 ≠ gb993); have n9_ := am_ (by rw [hg]; exact Nat.ne_of_lt (IsS116.lt (show IsS116 w _ g996 t994 t1000 from by repeat (first | (with_reducible first | exact HI996.out | apply IsS116.alloc | apply IsS116.drewN | apply IsS116.drew | apply IsS116.set_1 | refine IsS116.far ?_ NB996_993.out _) | exact HI996.out))) : g996 ≠ gb1001); have n10_ := am_ (by rw [hg]; exact Nat.ne_of_gt (IsS116.lt (show IsS116 w _ g996 t994 t1000 from by repeat (first | (with_reducible first | exact HI996.out | apply IsS116.alloc | apply IsS116.drewN | apply IsS116.drew | apply IsS116.set_1 | refine IsS116.far ?_ NB996_993.out _) | exact HI996.out))) : gb1001 ≠ g996); clear HO999 BK993 HI996 HB; have HO999 := n0_; have BK993 := n1_; have HI996 := n2_; have HB := n3_; have BK1001 := n4_; have GW1001 := n5_; have GE1001 := n6_; have NB993_1001 := n7_; have NB1001_993 := n8_; have NB996_1001 := n9_; have NB1001_996 := n10_; clear n0_ n1_ n2_ n3_ n4_ n5_ n6_ n7_ n8_ n9_ n10_; clear hb hbox hg; obtain ⟨Ao9, co9, eo9⟩ := Kd.N_slice HO999.out; subst eo9; have hnb10 := NB1001_993.out; have hnc10 := NB993_1001.out; have hnb11 := NB1001_996.out; have hnc11 := NB996_1001.out; have hcz12_0 : w8.cell? ⟨gb1001, 0, none⟩ = some (.slice none 0 0) := (blk_cell BK1001.out 0).trans rfl; have hfz12_0 := blk_frozen BK1001.out 0))
 have n0_ : Aside0 (Kd.N (Kd.slice 85 k85) 82 (w8.setCell ⟨gb1001, 0, none⟩ (.slice Ao9 t997.length co9)) w.heap.size (fun k_ => (w.heap.size ≤ k_) ∧ k_ ≠ gb993 ∧ k_ ≠ g996 ∧ k_ ≠ gb1001) (.slice Ao9 t997.length co9) t997) := ⟨nu (Kd.N_mono (Kd.N_far (p := ⟨gb1001, 0, none⟩) (Kd.N_mono HO999.out (fun k_ hk => (⟨hk, hk.2⟩ : _ ∧ k_ ≠ gb1001))) (fun _ hk => hk.2) (.slice Ao9 t997.length co9)) (fun _ hk => ⟨hk.1.1.1, ⟨hk.1.1.2.1, ⟨hk.1.1.2.2, hk.1.2⟩⟩⟩))⟩
 have n1_ : Aside0 ((w8.setCell ⟨gb1001, 0, none⟩ (.slice Ao9 t997.length co9)).heap[gb993]? = some (.cells #[.slice none 0 0] 35 (0, 0))) := ⟨by (with_reducible repeat (first | refine blk_drewN ?_ _ | refine blk_drew ?_ | refine blk_alloc ?_ _)); refine blk_far ?_ NB993_1001.out _; (with_reducible repeat (first | refine blk_drewN ?_ _ | refine blk_drew ?_ | refine blk_alloc ?_ _)); exact BK993.out⟩
 have n2_ : Aside0 ((w8.setCell ⟨gb1001, 0, none⟩ (.slice Ao9 t997.length co9)).heap[gb1001]? = some (.cells #[.slice Ao9 t997.length co9] 35 (0, 0))) := ⟨by (with_reducible repeat (first | refine blk_drewN ?_ _ | refine blk_drew ?_ | refine blk_alloc ?_ _)); refine blk_put (cs := #[.slice none 0 0]) ?_ 0 _ rfl; (with_reducible repeat (first | refine blk_drewN ?_ _ | refine blk_drew ?_ | refine blk_alloc ?_ _)); exact BK1001.out⟩
 have n3_ : Aside0 (IsS116 w (w8.setCell ⟨gb1001, 0, none⟩ (.slice Ao9 t997.length co9)) g996 t994 t1000) := ⟨by repeat (first | (with_reducible first | exact HI996.out | apply IsS116.alloc | apply IsS116.drewN | apply IsS116.drew | apply IsS116.set_1 | refine IsS116.far ?_ NB996_993.out _ | refine IsS116.far ?_ NB996_1001.out _) | exact HI996.out)⟩
 have n4_ : Aside0 (Below w.heap.size w (w8.setCell ⟨gb1001, 0, none⟩ (.slice Ao9 t997.length co9))) := ⟨z46_4⟩
 (try clear HO999)
 (try clear BK993)
 (try clear BK1001)
 (try clear HI996)
 (try clear HB)
 generalize (w8.setCell ⟨gb1001, 0, none⟩ (.slice Ao9 t997.length co9)) = w13 at n0_ n1_ n2_ n3_ n4_ ⊢
 have HO999 := n0_
 have BK993 := n1_
 have BK1001 := n2_
 have HI996 := n3_
 have HB := n4_
 clear n0_ n1_ n2_ n3_ n4_
 have n0_ := am_ (Kd.N_drew HO999.out)
 have n1_ := am_ (blk_drew BK993.out)
 have n2_ := am_ (blk_drew BK1001.out)
 have n3_ := am_ (IsS116.drew HI996.out)
 have n4_ := am_ (below_drew1 HB.out)
 clear HO999 BK993 BK1001 HI996 HB
 have HO999 := n0_
 have BK993 := n1_
 have BK1001 := n2_
 have HI996 := n3_
 have HB := n4_
 clear n0_ n1_ n2_ n3_ n4_
 refine start_ (n := 8) (S := fun w' => w'.cell? ⟨gb1001, 0, none⟩ = some (.slice Ao9 t997.length co9)) (ds := []) #[false, false, false, false, false, false, false, false] (by kernel_rfl) rfl rfl ((blk_cell BK1001.out 0).trans rfl) (fun hHeld => ?_); refine with_tabW spec_DrawTurnThreads.tab3 spec_DrawTurnThreads.bits3 (fun HT_ HW_ => ?_)
 generalize w13.drew = w14 at HO999 BK993 BK1001 HI996 HB hHeld ⊢
 refine pure_ (i := 1) (N := some 11) (v := ?_) (a' := ?_) #[false, true, false, false, false, false, false, false] rfl rfl (any_of HT_.out (by kernel_rfl)) (fun _ _ _ h => h) (Or.inl ⟨by rfl, ?_⟩) ?_ ?_
 rotate_left
 ·intro w'
  go_simp
  with_reducible rfl
 rotate_left
 ·simp only [Act.put, List.setIfInBounds_toArray, List.set_cons_zero, List.set_cons_succ, i64_w, i32_w]
  rfl
 refine pure_ (i := 2) (N := some 12) (v := ?_) (a' := ?_) #[false, true, true, false, false, false, false, false] rfl rfl (any_of HT_.out (by kernel_rfl)) (fun _ _ _ h => h) (Or.inl ⟨by rfl, ?_⟩) ?_ ?_
 rotate_left
 ·intro w'
  go_simp
  with_reducible rfl
 rotate_left
 ·simp only [Act.put, List.setIfInBounds_toArray, List.set_cons_zero, List.set_cons_succ, i64_w, i32_w]
  rfl
 refine take_ (i := 0) (N := some 10) (v := ?_) (a' := ?_) #[true, true, true, false, false, false, false, false] rfl rfl (take_ofW HT_.out HW_.out (by kernel_rfl)) (fun _ _ _ h => h) (Or.inl ⟨by rfl, ?_⟩) hHeld ?_ ?_
 rotate_left
 ·intro w' s0
  go_simp
  with_reducible rfl
 rotate_left
 ·simp only [Act.put, List.setIfInBounds_toArray, List.set_cons_zero, List.set_cons_succ, i64_w, i32_w]
  rfl
 refine take_ (i := 3) (N := some 13) (v := ?_) (a' := ?_) #[true, true, true, true, false, false, false, false] rfl rfl (take_ofW HT_.out HW_.out (by kernel_rfl)) (fun _ _ _ h => h) (Or.inl ⟨by rfl, ?_⟩) hHeld ?_ ?_
 rotate_left
 ·intro w' s0
  go_simp
  with_reducible rfl
 rotate_left
 ·simp only [Act.put, List.setIfInBounds_toArray, List.set_cons_zero, List.set_cons_succ, i64_w, i32_w]
  rfl
 refine pure_ (i := 4) (N := some 14) (v := ?_) (a' := ?_) #[true, true, true, true, true, false, false, false] rfl rfl (any_of HT_.out (by kernel_rfl)) (fun _ _ _ h => h) (Or.inl ⟨by rfl, ?_⟩) ?_ ?_
 rotate_left
 ·intro w'
  go_simp
  with_reducible rfl
 rotate_left
 ·simp only [Act.put, List.setIfInBounds_toArray, List.set_cons_zero, List.set_cons_succ, i64_w, i32_w]
  rfl
 refine one_ (i := 5) (N := some 15) #[true, true, true, true, true, true, false, false] rfl rfl (one_of HT_.out (by kernel_rfl)) (by decide) (fun K hK => ?_)
 refine goes_ Try.func96 (by kernel_rfl) rfl #[.pointer (some ⟨g996, 0, none⟩), .int .i64 (t997.length : Int)] (by rfl) rfl rfl (by (try simp only [List.map_toArray, List.map_cons, List.map_nil]); first | done | rfl | (simp only [List.length_drop, List.length_take]; rfl)) ?_
 with_reducible refine (spec_l71Row.calls k g996 t994 t1000 (t997.length : Int) t1002 t1005 w _ ?side1 ?side2 A4.out).mono ?_
 (case side1 => repeat (first | (with_reducible first | exact HI996.out | apply IsS116.alloc | apply IsS116.drewN | apply IsS116.drew | apply IsS116.set_1 | refine IsS116.far ?_ NB996_993.out _ | refine IsS116.far ?_ NB996_1001.out _) | exact HI996.out))
 (case side2 => repeat (first | (with_reducible first | exact HB.out | apply below_alloc | apply pw_below_drewN | apply below_drew1 | refine below_set ?_ (IsS116.ge HI996.out) | refine below_set ?_ GE993.out | refine below_set ?_ GE1001.out) | exact HB.out))
 rintro e w15 ⟨v1003, rfl, ho0, hi, hb, hk⟩
 refine ⟨_, rfl, ?_⟩
 have n0_ := am_ (KeepBut.blk hk (bu BK993.out) NB993_996.out (by simp))
 have n1_ := am_ (Kd.N_mono (Kd.N_told (Kd.N_oldK (Kd.N_mono (ok := fun k_ => (((w.heap.size ≤ k_)) ∧ (k_ ≠ gb993 ∧ (k_ ≠ g996 ∧ k_ ≠ gb1001)))) (nu HO999.out) (fun k_ hk_ => (⟨hk_, hk_.2.2.1⟩ : _ ∧ k_ ≠ g996))) hk) (Kd.R_base ho0)) (fun _ h_ => h_.1))
 have n2_ := am_ (KeepBut.blk hk (bu BK1001.out) NB1001_996.out (by simp))
 have n3_ := am_ (Kd.R_lower (Kd.R_newM (M := fun k_ => (w.heap.size ≤ k_)) ho0 (below_size z46_4) (fun k_ h_ => h_)) (below_size z46_4))
 have n4_ := am_ (hb)
 have n5_ := am_ (hi)
 clear BK993 HO999 BK1001 HB HI996
 have BK993 := n0_
 have HO999 := n1_
 have BK1001 := n2_
 have HO1004 := n3_
 have HB := n4_
 have HI996 := n5_
 clear n0_ n1_ n2_ n3_ n4_ n5_
 (try clear hb)
 (try clear hb2)
 (try clear hk)
 (try clear hi)
 (try clear ho0)
 refine hK.out _ _ ((blk_cell BK1001.out 0).trans rfl) (fun hHeld => ?_)
 clear hK K
 refine norm_ (a' := ?_) ?_ ?_
 rotate_left
 ·show Act.put _ (some 15) _ = _
  simp only [Act.put, List.setIfInBounds_toArray, List.set_cons_zero, List.set_cons_succ, i64_w, i32_w]
  rfl
 refine one_ (i := 6) (N := none) #[true, true, true, true, true, true, true, false] rfl rfl (one_of HT_.out (by kernel_rfl)) (by decide) (fun K hK => ?_)
 have hs16 : w15.cell? ⟨gb993, 0, none⟩ = some (.slice none 0 0) := (blk_cell BK993.out 0).trans rfl
 have hfs16 := blk_frozen BK993.out 0
 have hns16_1 := NB1001_993.out
 have hms16_1 := NB993_1001.out
 refine skip_ (w1 := ?_) (by rfl) rfl ?_ ?_
 rotate_left
 ·go_simp
  rfl
 refine hK.out _ _ (((cell_far (p := ⟨gb993, _, none⟩) NB1001_993.out _).trans (hHeld))) (fun hHeld => ?_)
 clear hK K
 refine pure_ (i := 7) (N := some 3) (v := ?_) (a' := ?_) #[true, true, true, true, true, true, true, true] rfl rfl (any_of HT_.out (by kernel_rfl)) (fun _ _ _ h => h) (Or.inl ⟨by rfl, ?_⟩) ?_ ?_
 rotate_left
 ·intro w'
  go_simp
  with_reducible rfl
 rotate_left
 ·simp only [Act.put, List.setIfInBounds_toArray, List.set_cons_zero, List.set_cons_succ, i64_w, i32_w]
  rfl
 refine done_ (done_of HT_.out (by kernel_rfl)) ?_
 try go_wp2
 refine bodyPost_ret (results_ct rfl _ _ gb993 35 #[.slice Ao9 t997.length co9] (0, 0) _ rfl (by (with_reducible repeat (first | refine blk_drewN ?_ _ | refine blk_drew ?_ | refine blk_alloc ?_ _)); refine blk_put (cs := #[.slice none 0 0]) ?_ 0 _ rfl; (with_reducible repeat (first | refine blk_drewN ?_ _ | refine blk_drew ?_ | refine blk_alloc ?_ _)); exact BK993.out) Try.underlying35 rfl (by kernel_rfl)) rfl ?_
 exact ⟨_, _, by first | rfl | (simp [errW_none, errW_some] <;> rfl) | (simp [*, errW_none, errW_some] <;> rfl), nu (Kd.N_mono (Kd.N_far (p := ⟨gb993, 0, none⟩) (Kd.N_mono HO999.out (fun k_ hk => (⟨hk, hk.1.2.1⟩ : _ ∧ k_ ≠ gb993))) (fun _ hk => hk.2) (.slice Ao9 t997.length co9)) (fun _ hk => ⟨hk.1.1.1, hk.1.2⟩)), ru (Kd.R_mono (Kd.R_far (p := ⟨gb993, 0, none⟩) (Kd.R_types HO1004.out BK993.out (by decide)) (fun _ hk => hk.2) (.slice Ao9 t997.length co9)) (fun _ hk => hk.1.1)), z46_4⟩

end Go.Proofs.Ytefkbmhkhpekjaa.PB

namespace Go.Proofs.Ytefkbmhkhpekjaa.PB
open Go.RowKit Go.Proofs.YtefkbmhkhpekjaaW.PrintWords Go.Proofs.YtefkbmhkhpekjaaW.PrintLast Go.Proofs.YtefkbmhkhpekjaaW.PrintMore
attribute [local go_sem] max2_int min2_int max_two min_two max_three min_three max_four min_four   -- for this text's walks alone
open Go.Proofs.YtefkbmhkhpekjaaMine
set_option linter.unusedVariables false
set_option linter.unusedSimpArgs false

theorem z133_1 {p : Prop} (h : p := by first | rfl | (simp; done) | (simp [*]; done)) : p := h
theorem z133_2 {p : Prop} (h : p := by first | (with_reducible assumption) | assumption) : p := h
theorem z133_3 {p : Prop} (h : p := by repeat (first | exact Drawn0.refl _ | apply Drawn0.step)) : p := h
/-! ### slices_Index_int_int: function 133 -/
def slices_Index_int_int.l0 : Nat → List Int → Int → Int → Int → Option (Int)
  | 0, _, _, _, _ => none
  | k + 1, x0, x1, x7, x8 => if x8 < x7 then (if 0 ≤ x8 then (if x8 < (x0.length : Int) then (if x1 = (rd x0 x8) then (some x8) else (slices_Index_int_int.l0 k x0 x1 x7 (wrap64 (x8 + 1)))) else (none)) else (none)) else (some (-1))
def slices_Index_int_int.f (k : Nat) (l0 : List Int) (a1 : Int) : Option (Int) := slices_Index_int_int.l0 k l0 a1 (l0.length : Int) 0
theorem slices_Index_int_int.mono_l : ∀ k, (∀ y0 y1 y2 y3, LeO (slices_Index_int_int.l0 k y0 y1 y2 y3) (slices_Index_int_int.l0 (k + 1) y0 y1 y2 y3))
  | 0 => fun _ _ _ _ r h => by simp [slices_Index_int_int.l0] at h
  | k + 1 => by
    have ih0 := slices_Index_int_int.mono_l k
    · intro y0 y1 y2 y3
      unfold slices_Index_int_int.l0
      repeat' first
      | (with_reducible exact ih0 _ _ _ _)
      | (with_reducible exact LeO.refl _)
      | (with_reducible exact LeO.none _)
      | (with_reducible refine LeO.ite ?_ ?_)
      | (with_reducible refine LeO.bind ?_ (fun _ => ?_))
      | exact ih0 _ _ _ _
      | exact LeO.none _
      | refine LeO.ite ?_ ?_
      | refine LeO.bind ?_ (fun _ => ?_)
theorem slices_Index_int_int.mono : ∀ a0 a1 k, LeO (slices_Index_int_int.f k a0 a1) (slices_Index_int_int.f (k + 1) a0 a1) := by
  intro a0 a1 k
  have ih0 := slices_Index_int_int.mono_l k
  unfold slices_Index_int_int.f
  repeat' first
      | (with_reducible exact ih0 _ _ _ _)
      | (with_reducible exact LeO.refl _)
      | (with_reducible exact LeO.none _)
      | (with_reducible refine LeO.ite ?_ ?_)
      | (with_reducible refine LeO.bind ?_ (fun _ => ?_))
      | exact ih0 _ _ _ _
      | exact LeO.none _
      | refine LeO.ite ?_ ?_
      | refine LeO.bind ?_ (fun _ => ?_)
set_option maxHeartbeats 8000000 in
set_option maxRecDepth 100000 in
theorem slices_Index_int_int.calls (k : Nat) (A0 : Option Addr) (c0 : Nat) (l0 : List Int) (a1 : Int) (r : Int) (w : World) (hr0 : Kd.C (Kd.int .i64) w A0 l0.length l0) (hc0 : l0.length ≤ c0) (h : slices_Index_int_int.f k l0 a1 = some r) :
  Calls Try.prog 133 #[.slice A0 l0.length c0, .int .i64 a1] w fun e w' => e = .returned (.int .i64 r) ∧ Drawn0 w w' := by
 have HR0 := am_ hr0
 have HC0 := am_ hc0
 clear hr0 hc0
 have H : (slices_Index_int_int.l0 k l0 a1 (l0.length : Int) 0) = some r := h
 clear h
 have H' := am_ H
 clear H
 go_enter Try.func133, Try.ntmps133
 go_wp2
 go_loopg [8] k (fun kq v8 w' => ∃ (x8_1 : Int), v8 = .int .i64 x8_1 ∧ Aside0 (slices_Index_int_int.l0 kq l0 a1 (l0.length : Int) x8_1 = some r) ∧ Aside0 (kq ≤ k) ∧ Drawn0 w w')
 case atStart => exact ⟨(0), z133_1, H', ⟨Nat.le_refl _⟩, z133_3⟩
 case round =>
  clear H'
  obtain ⟨x8_1, rfl, HA, HK1, ⟨m1, rfl⟩⟩ := hrel
  cases gk with
  | zero => exact absurd HA.out (by simp [slices_Index_int_int.l0])
  | succ k1 =>
   have H := HA.out
   clear HA
   simp only [slices_Index_int_int.l0] at H
   by_cases c3 : x8_1 < (l0.length : Int)
   ·rw [if_pos c3] at H
    have c3b0 : decide (x8_1 < (l0.length : Int)) = true := decide_eq_true c3
    clear c3
    by_cases c4 : 0 ≤ x8_1
    ·rw [if_pos c4] at H
     have c4b0 : decide (0 ≤ x8_1) = true := decide_eq_true c4
     clear c4
     by_cases c5 : x8_1 < (l0.length : Int)
     ·rw [if_pos c5] at H
      have c5b0 : decide (x8_1 < (l0.length : Int)) = true := decide_eq_true c5
      clear c5
      by_cases c6 : a1 = (rd l0 x8_1)
      ·rw [if_pos c6] at H
       have c6b0 : (a1 == (rd l0 x8_1)) = true := beq_iff_eq.mpr c6
       have c6b1 : (a1 != (rd l0 x8_1)) = false := bne_eq_false_iff_eq.mpr c6
       clear c6
       obtain rfl := Option.some.inj H
       have p456 : 0 ≤ (x8_1 : Int) := of_decide_eq_true z133_2
       have q456 : x8_1 < (l0.length : Int) := of_decide_eq_true z133_2
       obtain ⟨ad456, e456, hx456_0⟩ := Kd.at_int HR0.out x8_1 p456 q456
       cases e456
       replace p456 := eq_true p456
       replace q456 := eq_true q456
       go_wp2
       go_ret
       exact ⟨z133_1, z133_3⟩
      ·rw [if_neg c6] at H
       have c6b0 : (a1 == (rd l0 x8_1)) = false := beq_eq_false_iff_ne.mpr c6
       have c6b1 : (a1 != (rd l0 x8_1)) = true := bne_iff_ne.mpr c6
       have H' := am_ H
       clear H
       have p456 : 0 ≤ (x8_1 : Int) := of_decide_eq_true z133_2
       have q456 : x8_1 < (l0.length : Int) := of_decide_eq_true z133_2
       obtain ⟨ad456, e456, hx456_0⟩ := Kd.at_int HR0.out x8_1 p456 q456
       cases e456
       replace p456 := eq_true p456
       replace q456 := eq_true q456
       go_wp2
       go_roundg k1
       case measure => have := HK1.out; omega
       case rel => exact ⟨(wrap64 (x8_1 + 1)), z133_1, H', ⟨by have := HK1.out; omega⟩, z133_3⟩
     ·rw [if_neg c5] at H
      exact absurd H (by simp)
    ·rw [if_neg c4] at H
     exact absurd H (by simp)
   ·rw [if_neg c3] at H
    have c3b0 : decide (x8_1 < (l0.length : Int)) = false := decide_eq_false c3
    clear c3
    obtain rfl := Option.some.inj H
    go_wp2
    go_ret
    exact ⟨z133_1, z133_3⟩

end Go.Proofs.Ytefkbmhkhpekjaa.PB

namespace Go.Proofs.Ytefkbmhkhpekjaa.PB
open Go.RowKit Go.Proofs.YtefkbmhkhpekjaaW.PrintWords Go.Proofs.YtefkbmhkhpekjaaW.PrintLast Go.Proofs.YtefkbmhkhpekjaaW.PrintMore
attribute [local go_sem] max2_int min2_int max_two min_two max_three min_three max_four min_four   -- for this text's walks alone
open Go.Proofs.YtefkbmhkhpekjaaMine
set_option linter.unusedVariables false
set_option linter.unusedSimpArgs false

/-! ### slices_Contains_int_int: function 120 -/
def slices_Contains_int_int.f (k : Nat) (l0 : List Int) (a1 : Int) : Option (Bool) := (slices_Index_int_int.f k l0 a1).bind fun t457 => (some (decide (t457 ≥ 0)))
theorem slices_Contains_int_int.mono : ∀ a0 a1 k, LeO (slices_Contains_int_int.f k a0 a1) (slices_Contains_int_int.f (k + 1) a0 a1) := by
  intro a0 a1 k
  unfold slices_Contains_int_int.f
  repeat' first
      | (with_reducible exact slices_Index_int_int.mono _ _ _)
      | (with_reducible exact LeO.refl _)
      | (with_reducible exact LeO.none _)
      | (with_reducible refine LeO.ite ?_ ?_)
      | (with_reducible refine LeO.bind ?_ (fun _ => ?_))
      | exact slices_Index_int_int.mono _ _ _
      | exact LeO.none _
      | refine LeO.ite ?_ ?_
      | refine LeO.bind ?_ (fun _ => ?_)
set_option maxHeartbeats 8000000 in
set_option maxRecDepth 100000 in
theorem slices_Contains_int_int.calls (k : Nat) (A0 : Option Addr) (c0 : Nat) (l0 : List Int) (a1 : Int) (r : Bool) (w : World) (hr0 : Kd.C (Kd.int .i64) w A0 l0.length l0) (hc0 : l0.length ≤ c0) (h : slices_Contains_int_int.f k l0 a1 = some r) :
  Calls Try.prog 120 #[.slice A0 l0.length c0, .int .i64 a1] w fun e w' => e = .returned (.bool r) ∧ Drawn0 w w' := by
 have HR0 := am_ hr0
 have HC0 := am_ hc0
 clear hr0 hc0
 have H : ((slices_Index_int_int.f k l0 a1).bind fun t457 => (some (decide (t457 ≥ 0)))) = some r := h
 clear h
 replace H := Option.bind_eq_some_iff.mp H
 obtain ⟨t457, A30, H⟩ := H
 replace H : (some (decide (t457 ≥ 0))) = some r := H
 have A3 := am_ A30
 clear A30
 obtain rfl := Option.some.inj H
 go_enter Try.func120, Try.ntmps120
 go_wp2_with (first | ((with_reducible refine gate_callee (f := 133) rfl ?_); refine goesL_ (some 7) rfl rfl Try.func133 (by kernel_rfl) rfl #[.slice A0 l0.length c0, .int .i64 a1] rfl (by (try simp only [List.map_toArray, List.map_cons, List.map_nil]); first | done | rfl | (simp only [List.length_drop, List.length_take]; rfl)) ?_; (with_reducible refine (slices_Index_int_int.calls k _ _ l0 a1 t457 _ ?side1 ?side2 A3.out).mono ?_); (case side1 => repeat (first | exact HR0.out | (with_reducible refine Kd.C_alloc ?_ _) | (with_reducible refine Kd.C_drewN ?_ _) | (with_reducible refine Kd.C_drew ?_))); (case side2 => exact HC0.out); rintro e w' ⟨rfl, ⟨nd, rfl⟩⟩; refine ⟨_, rfl, ?_⟩))
 go_ret
 exact ⟨by first | rfl | (simp; done) | (simp [*]; done), by repeat (first | exact Drawn0.refl _ | apply Drawn0.step)⟩

end Go.Proofs.Ytefkbmhkhpekjaa.PB

namespace Go.Proofs.Ytefkbmhkhpekjaa.PB
open Go.RowKit Go.Proofs.YtefkbmhkhpekjaaW.PrintWords Go.Proofs.YtefkbmhkhpekjaaW.PrintLast Go.Proofs.YtefkbmhkhpekjaaW.PrintMore
attribute [local go_sem] max2_int min2_int max_two min_two max_three min_three max_four min_four   -- for this text's walks alone
open Go.Proofs.YtefkbmhkhpekjaaMine
set_option linter.unusedVariables false
set_option linter.unusedSimpArgs false

theorem z97_1 {p : Prop} (h : p := by first | rfl | (simp; done) | (simp [*]; done)) : p := h
theorem z97_2 {p : Prop} (h : p := by repeat (first | exact Drawn0.refl _ | apply Drawn0.step)) : p := h
/-! ### impl_isRow: function 97 -/
def impl_isRow.l0 : Nat → List Int → Int → Int → Option (Bool)
  | 0, _, _, _ => none
  | k + 1, x0, x10, x11 => if x11 < x10 then ((slices_Contains_int_int.f k x0 x11).bind fun t1006 => (if t1006 = true then (impl_isRow.l0 k x0 x10 (wrap64 (x11 + 1))) else (some false))) else (some true)
def impl_isRow.f (k : Nat) (l0 : List Int) (a1 : Int) : Option (Bool) := if (l0.length : Int) = a1 then (impl_isRow.l0 k l0 a1 0) else (some false)
theorem impl_isRow.mono_l : ∀ k, (∀ y0 y1 y2, LeO (impl_isRow.l0 k y0 y1 y2) (impl_isRow.l0 (k + 1) y0 y1 y2))
  | 0 => fun _ _ _ r h => by simp [impl_isRow.l0] at h
  | k + 1 => by
    have ih0 := impl_isRow.mono_l k
    · intro y0 y1 y2
      unfold impl_isRow.l0
      repeat' first
      | (with_reducible exact ih0 _ _ _)
      | (with_reducible exact slices_Contains_int_int.mono _ _ _)
      | (with_reducible exact LeO.refl _)
      | (with_reducible exact LeO.none _)
      | (with_reducible refine LeO.ite ?_ ?_)
      | (with_reducible refine LeO.bind ?_ (fun _ => ?_))
      | exact ih0 _ _ _
      | exact slices_Contains_int_int.mono _ _ _
      | exact LeO.none _
      | refine LeO.ite ?_ ?_
      | refine LeO.bind ?_ (fun _ => ?_)
theorem impl_isRow.mono : ∀ a0 a1 k, LeO (impl_isRow.f k a0 a1) (impl_isRow.f (k + 1) a0 a1) := by
  intro a0 a1 k
  have ih0 := impl_isRow.mono_l k
  unfold impl_isRow.f
  repeat' first
      | (with_reducible exact ih0 _ _ _)
      | (with_reducible exact slices_Contains_int_int.mono _ _ _)
      | (with_reducible exact LeO.refl _)
      | (with_reducible exact LeO.none _)
      | (with_reducible refine LeO.ite ?_ ?_)
      | (with_reducible refine LeO.bind ?_ (fun _ => ?_))
      | exact ih0 _ _ _
      | exact slices_Contains_int_int.mono _ _ _
      | exact LeO.none _
      | refine LeO.ite ?_ ?_
      | refine LeO.bind ?_ (fun _ => ?_)
set_option maxHeartbeats 8000000 in
set_option maxRecDepth 100000 in
theorem impl_isRow.calls (k : Nat) (A0 : Option Addr) (c0 : Nat) (l0 : List Int) (a1 : Int) (r : Bool) (w : World) (hr0 : Kd.C (Kd.int .i64) w A0 l0.length l0) (hc0 : l0.length ≤ c0) (h : impl_isRow.f k l0 a1 = some r) :
  Calls Try.prog 97 #[.slice A0 l0.length c0, .int .i64 a1] w fun e w' => e = .returned (.bool r) ∧ Drawn0 w w' := by
 have HR0 := am_ hr0
 have HC0 := am_ hc0
 clear hr0 hc0
 have H : (if (l0.length : Int) = a1 then (impl_isRow.l0 k l0 a1 0) else (some false)) = some r := h
 clear h
 by_cases c3 : (l0.length : Int) = a1
 ·rw [if_pos c3] at H
  have c3b0 : ((l0.length : Int) == a1) = true := beq_iff_eq.mpr c3
  have c3b1 : ((l0.length : Int) != a1) = false := bne_eq_false_iff_eq.mpr c3
  clear c3
  have H' := am_ H
  clear H
  go_enter Try.func97, Try.ntmps97
  go_wp2
  go_loopg [11] k (fun kq v11 w' => ∃ (x11_1 : Int), v11 = .int .i64 x11_1 ∧ Aside0 (impl_isRow.l0 kq l0 a1 x11_1 = some r) ∧ Aside0 (kq ≤ k) ∧ Drawn0 w w')
  case atStart => exact ⟨(0), z97_1, H', ⟨Nat.le_refl _⟩, z97_2⟩
  case round =>
   clear H'
   obtain ⟨x11_1, rfl, HA, HK1, ⟨m1, rfl⟩⟩ := hrel
   cases gk with
   | zero => exact absurd HA.out (by simp [impl_isRow.l0])
   | succ k1 =>
    have H := HA.out
    clear HA
    simp only [impl_isRow.l0] at H
    by_cases c4 : x11_1 < a1
    ·rw [if_pos c4] at H
     have c4b0 : decide (x11_1 < a1) = true := decide_eq_true c4
     clear c4
     replace H := Option.bind_eq_some_iff.mp H
     obtain ⟨t1006, A50, H⟩ := H
     replace H : (if t1006 = true then (impl_isRow.l0 k1 l0 a1 (wrap64 (x11_1 + 1))) else (some false)) = some r := H
     have A5 := am_ A50
     clear A50
     by_cases c6 : t1006 = true
     ·subst c6
      have H1 : (impl_isRow.l0 k1 l0 a1 (wrap64 (x11_1 + 1))) = some r := by rw [if_pos rfl] at H; exact H
      clear H
      have H := H1
      clear H1
      have H' := am_ H
      clear H
      go_wp2_with (first | ((with_reducible refine gate_callee (f := 120) rfl ?_); refine goesL_ (some 16) rfl rfl Try.func120 (by kernel_rfl) rfl #[.slice A0 l0.length c0, .int .i64 x11_1] rfl (by (try simp only [List.map_toArray, List.map_cons, List.map_nil]); first | done | rfl | (simp only [List.length_drop, List.length_take]; rfl)) ?_; (with_reducible refine (slices_Contains_int_int.calls k1 _ _ l0 x11_1 true _ ?side1 ?side2 A5.out).mono ?_); (case side1 => repeat (first | exact HR0.out | (with_reducible refine Kd.C_alloc ?_ _) | (with_reducible refine Kd.C_drewN ?_ _) | (with_reducible refine Kd.C_drew ?_))); (case side2 => exact HC0.out); rintro e w' ⟨rfl, ⟨nd, rfl⟩⟩; refine ⟨_, rfl, ?_⟩))
      go_roundg k1
      case measure => have := HK1.out; omega
      case rel => exact ⟨(wrap64 (x11_1 + 1)), z97_1, H', ⟨by have := HK1.out; omega⟩, z97_2⟩
     ·replace c6 := Bool.eq_false_iff.mpr c6
      subst c6
      have H1 : (some false) = some r := by rw [if_neg (show ¬ (false = true) by decide)] at H; exact H
      clear H
      have H := H1
      clear H1
      obtain rfl := Option.some.inj H
      go_wp2_with (first | ((with_reducible refine gate_callee (f := 120) rfl ?_); refine goesL_ (some 16) rfl rfl Try.func120 (by kernel_rfl) rfl #[.slice A0 l0.length c0, .int .i64 x11_1] rfl (by (try simp only [List.map_toArray, List.map_cons, List.map_nil]); first | done | rfl | (simp only [List.length_drop, List.length_take]; rfl)) ?_; (with_reducible refine (slices_Contains_int_int.calls k1 _ _ l0 x11_1 false _ ?side1 ?side2 A5.out).mono ?_); (case side1 => repeat (first | exact HR0.out | (with_reducible refine Kd.C_alloc ?_ _) | (with_reducible refine Kd.C_drewN ?_ _) | (with_reducible refine Kd.C_drew ?_))); (case side2 => exact HC0.out); rintro e w' ⟨rfl, ⟨nd, rfl⟩⟩; refine ⟨_, rfl, ?_⟩))
      go_ret
      exact ⟨z97_1, z97_2⟩
    ·rw [if_neg c4] at H
     have c4b0 : decide (x11_1 < a1) = false := decide_eq_false c4
     clear c4
     obtain rfl := Option.some.inj H
     go_wp2
     go_ret
     exact ⟨z97_1, z97_2⟩
 ·rw [if_neg c3] at H
  have c3b0 : ((l0.length : Int) == a1) = false := beq_eq_false_iff_ne.mpr c3
  have c3b1 : ((l0.length : Int) != a1) = true := bne_iff_ne.mpr c3
  obtain rfl := Option.some.inj H
  go_enter Try.func97, Try.ntmps97
  go_wp2
  go_ret
  exact ⟨z97_1, z97_2⟩

end Go.Proofs.Ytefkbmhkhpekjaa.PB

namespace Go.Proofs.Ytefkbmhkhpekjaa.PB
open Go.RowKit Go.Proofs.YtefkbmhkhpekjaaW.PrintWords Go.Proofs.YtefkbmhkhpekjaaW.PrintLast Go.Proofs.YtefkbmhkhpekjaaW.PrintMore
attribute [local go_sem] max2_int min2_int max_two min_two max_three min_three max_four min_four   -- for this text's walks alone
open Go.Proofs.YtefkbmhkhpekjaaMine
set_option linter.unusedVariables false
set_option linter.unusedSimpArgs false

/-! ### impl_Do_98: function 98 -/
def impl_Do_98.f (l0 : List S85) : Option (List S85) := if l0.length < 1048577 then some l0 else none
set_option maxRecDepth 100000 in
set_option maxHeartbeats 800000 in
theorem impl_Do_98.calls (A0 : Option Addr) (c0 : Nat) (l0 : List S85) (r : List S85) (w : World) (hr0 : Kd.C k85 w A0 l0.length l0) (hc0 : l0.length ≤ c0) (h : impl_Do_98.f l0 = some r) :
  Calls Try.prog 98 #[.slice A0 l0.length c0] w fun e w' => ∃ v0_ : Value, e = .returned (v0_) ∧ Kd.R k85 85 w' w.heap.size (fun _ => True) v0_ r ∧ Below w.heap.size w w' := by
 unfold impl_Do_98.f at h
 split at h
 ·rename_i hl
  injection h with h; subst h
  have qT : ∀ (w : World) (a : Option Addr) (n c n' c' : Nat), (binOp .eql 82 (.slice a n c) (.slice none n' c')).run Try.prog w = .ok (.bool a.isNone) w := fun w a n c n' c' => Lib.run_eql_slice_nil w _ _ a n c n' c' Try.underlying82
  rcases A0 with _ | ad
  ·obtain rfl := nil_of_none hr0
   go_enter Try.func98, Try.ntmps98
   go_wp2_with fail
   go_ret
   exact ⟨_, rfl, Kd.R_nil _ _ _ _ _, Below.refl _ _⟩
  ·go_enter Try.func98, Try.ntmps98
   go_wp2_with (at_builtin; refine park ?_)
   refine ⟨?_⟩
   refine Kd.R_append_rows k85 (Rr := k85.K (w.alloc (Obj.cells #[] 85))) (w0 := w) w.heap.size (by rfl) (.tmp 5) (.tmp 6) 82 85 (.agg #[(.int .i64 0), (.int .i64 0), (.int .i64 0)]) 24 rfl Try.underlying82 info85 rfl (by decide) (by omega) (.slice (some ⟨w.heap.size, 0, none⟩) 0 0) [] l0 (some ad) l0.length c0 (fun _ => True) (fun _ => False) rfl rfl ?aO ?aR ?aK (fun _ h => h.elim) (fun _ _ => trivial) ?aB (by simp) ?aL ?_
   case aO => exact R_empty _ _ _ _ _ (Nat.le_refl _) trivial
   case aR => exact C_rows (Kd.C_below hr0 (below_alloc (Below.refl _ _) _))
   case aK => intro x cs hx; rw [k85_open hx]; exact k85_mkM _ _ _ _
   case aB => exact below_alloc (Below.refl _ _) _
   case aL => simp; omega
   intro v1 w1 ho1 hb1 _ _
   go_wp2_with fail
   go_ret
   exact ⟨_, rfl, by simpa using ho1, hb1⟩
 ·cases h


end Go.Proofs.Ytefkbmhkhpekjaa.PB

namespace Go.Proofs.Ytefkbmhkhpekjaa.PB
open Go.RowKit Go.Proofs.YtefkbmhkhpekjaaW.PrintWords Go.Proofs.YtefkbmhkhpekjaaW.PrintLast Go.Proofs.YtefkbmhkhpekjaaW.PrintMore
attribute [local go_sem] max2_int min2_int max_two min_two max_three min_three max_four min_four   -- for this text's walks alone
open Go.Proofs.YtefkbmhkhpekjaaMine
set_option linter.unusedVariables false
set_option linter.unusedSimpArgs false

theorem z47_1 {p : Prop} (h : p := by first | rfl | (simp; done) | (simp [*]; done)) : p := h
theorem z47_2 {p : Prop} (h : p := by first | (with_reducible assumption) | assumption) : p := h
theorem z47_3 {p : Prop} (h : p := by first | rfl | (simp [errW_none, errW_some] <;> rfl) | (simp [*, errW_none, errW_some] <;> rfl)) : p := h
theorem z47_4 {p : Prop} (h : p := by repeat (first | (with_reducible first | exact HB.out | apply below_alloc | apply pw_below_drewN | apply below_drew1) | exact HB.out)) : p := h
theorem z47_5 {p : Prop} (h : p := by first | exact Kd.S_nil _ _ _ _ _ | exact Kd.N_nil _ _ _ _ _ | exact Kd.V_nil _ _ _ _ _ | exact Kd.Q_nil _ _ _ _ _ | exact Kd.R_nil _ _ _ _ _) : p := h
theorem z47_6 {p : Prop} (h : p := by repeat (first | (with_reducible first | exact HB.out | apply below_alloc | apply pw_below_drewN | apply below_drew1 | refine below_set ?_ GE1007.out) | exact HB.out)) : p := h
theorem z47_7 {p : Prop} (h : p := by repeat (first | (with_reducible first | exact HB.out | apply below_alloc | apply pw_below_drewN | apply below_drew1 | refine below_set ?_ GE1007.out | refine below_set ?_ GE1008.out) | exact HB.out)) : p := h
theorem z47_8 {p : Prop} (h : p := by repeat (first | (with_reducible first | exact HB.out | apply below_alloc | apply pw_below_drewN | apply below_drew1 | refine below_set ?_ GE1007.out | refine below_set ?_ GE1008.out | refine below_set ?_ GE1011.out) | exact HB.out)) : p := h
theorem z47_9 {p : Prop} (h : p := by (with_reducible repeat (first | refine blk_drewN ?_ _ | refine blk_drew ?_ | refine blk_alloc ?_ _)); refine blk_put (cs := #[.slice none 0 0]) ?_ 0 _ rfl; (with_reducible repeat (first | refine blk_drewN ?_ _ | refine blk_drew ?_ | refine blk_alloc ?_ _)); exact BK1008.out) : p := h
/-! ### impl_TurnThreads: function 47 -/
mutual
def impl_TurnThreads.j0 : Nat → List Int → Bool → List (List (S85)) → Option ((List (List (S85))) × Bool)
  | 0, _, _, _ => none
  | k + 1, x1, x19, x1008000 => if x19 = true then (some (([] : List (List (S85))), false)) else (impl_TurnThreads.l0 k x1 (x1.length : Int) 0 x1008000 ([] : List (List (S85))))
def impl_TurnThreads.l0 : Nat → List Int → Int → Int → List (List (S85)) → List (List (S85)) → Option ((List (List (S85))) × Bool)
  | 0, _, _, _, _, _ => none
  | k + 1, x21, x22, x23, x1008000, x1012000 => if x23 < x22 then (if 0 ≤ x23 then (if x23 < (x21.length : Int) then (if 0 ≤ (rd x21 x23) then (if (rd x21 x23) < (x1008000.length : Int) then ((impl_Do_98.f (rd_L7 x1008000 (rd x21 x23))).bind fun t1014 => (if x1012000.length < 5864062014805 then (impl_TurnThreads.l0 k x21 x22 (wrap64 (x23 + 1)) x1008000 (x1012000 ++ [t1014])) else (none))) else (none)) else (none)) else (none)) else (none)) else (some (x1012000, true))
end
def impl_TurnThreads.f (k : Nat) (l0_0 : List (List (S85))) (l1 : List Int) : Option ((List (List (S85))) × Bool) := (impl_ProgOk.f k l0_0).bind fun t1009 => (if t1009 = true then ((impl_isRow.f k l1 (l0_0.length : Int)).bind fun t1010 => (impl_TurnThreads.j0 k l1 (!t1010) l0_0)) else (impl_TurnThreads.j0 k l1 true l0_0))
theorem impl_TurnThreads.mono_l : ∀ k, (∀ y0 y1 y2, LeO (impl_TurnThreads.j0 k y0 y1 y2) (impl_TurnThreads.j0 (k + 1) y0 y1 y2)) ∧ (∀ y0 y1 y2 y3 y4, LeO (impl_TurnThreads.l0 k y0 y1 y2 y3 y4) (impl_TurnThreads.l0 (k + 1) y0 y1 y2 y3 y4))
  | 0 => ⟨fun _ _ _ r h => by simp [impl_TurnThreads.j0] at h, fun _ _ _ _ _ r h => by simp [impl_TurnThreads.l0] at h⟩
  | k + 1 => by
    obtain ⟨ih0, ih1⟩ := impl_TurnThreads.mono_l k
    refine ⟨?_, ?_⟩
    · intro y0 y1 y2
      unfold impl_TurnThreads.j0
      repeat' first
      | (with_reducible exact ih0 _ _ _)
      | (with_reducible exact ih1 _ _ _ _ _)
      | (with_reducible exact impl_ProgOk.mono _ _)
      | (with_reducible exact impl_isRow.mono _ _ _)
      | (with_reducible exact LeO.refl _)
      | (with_reducible exact LeO.none _)
      | (with_reducible refine LeO.ite ?_ ?_)
      | (with_reducible refine LeO.bind ?_ (fun _ => ?_))
      | exact ih0 _ _ _
      | exact ih1 _ _ _ _ _
      | exact impl_ProgOk.mono _ _
      | exact impl_isRow.mono _ _ _
      | exact LeO.none _
      | refine LeO.ite ?_ ?_
      | refine LeO.bind ?_ (fun _ => ?_)
    · intro y0 y1 y2 y3 y4
      unfold impl_TurnThreads.l0
      repeat' first
      | (with_reducible exact ih0 _ _ _)
      | (with_reducible exact ih1 _ _ _ _ _)
      | (with_reducible exact impl_ProgOk.mono _ _)
      | (with_reducible exact impl_isRow.mono _ _ _)
      | (with_reducible exact LeO.refl _)
      | (with_reducible exact LeO.none _)
      | (with_reducible refine LeO.ite ?_ ?_)
      | (with_reducible refine LeO.bind ?_ (fun _ => ?_))
      | exact ih0 _ _ _
      | exact ih1 _ _ _ _ _
      | exact impl_ProgOk.mono _ _
      | exact impl_isRow.mono _ _ _
      | exact LeO.none _
      | refine LeO.ite ?_ ?_
      | refine LeO.bind ?_ (fun _ => ?_)
theorem impl_TurnThreads.mono : ∀ a0 a1 k, LeO (impl_TurnThreads.f k a0 a1) (impl_TurnThreads.f (k + 1) a0 a1) := by
  intro a0 a1 k
  obtain ⟨ih0, ih1⟩ := impl_TurnThreads.mono_l k
  unfold impl_TurnThreads.f
  repeat' first
      | (with_reducible exact ih0 _ _ _)
      | (with_reducible exact ih1 _ _ _ _ _)
      | (with_reducible exact impl_ProgOk.mono _ _)
      | (with_reducible exact impl_isRow.mono _ _ _)
      | (with_reducible exact LeO.refl _)
      | (with_reducible exact LeO.none _)
      | (with_reducible refine LeO.ite ?_ ?_)
      | (with_reducible refine LeO.bind ?_ (fun _ => ?_))
      | exact ih0 _ _ _
      | exact ih1 _ _ _ _ _
      | exact impl_ProgOk.mono _ _
      | exact impl_isRow.mono _ _ _
      | exact LeO.none _
      | refine LeO.ite ?_ ?_
      | refine LeO.bind ?_ (fun _ => ?_)
def impl_TurnThreads.T7 : Bool × List (List Nat × List Nat) := (true, [([], []), ([0], [0]), ([], []), ([2], [2]), ([], []), ([3, 4], [3, 4]), ([5], [5]), ([6], [6]), ([7], [7]), ([1, 8, 7], [1, 8]), ([0, 1, 2, 3, 4, 5, 6, 7, 8, 9], []), ([10, 9, 9, 0, 1, 2, 3, 4, 5, 6, 7, 8, 9], [9, 10])])
def impl_TurnThreads.B7 : List Nat := [0, 1, 0, 4, 0, 28, 60, 124, 252, 511, 1023, 2047]
theorem impl_TurnThreads.tab7 : rtab .any (opsOf Try.f47 7) = impl_TurnThreads.T7 := by kernel_rfl
theorem impl_TurnThreads.bits7 : waitsOk impl_TurnThreads.T7.2 impl_TurnThreads.B7 = true := by kernel_rfl
set_option maxHeartbeats 8000000 in
set_option maxRecDepth 100000 in
theorem impl_TurnThreads.calls (k : Nat) (A0_0 : Option Addr) (c0_0 : Nat) (l0_0 : List (List (S85))) (A1 : Option Addr) (c1 : Nat) (l1 : List Int) (r1 : List (List (S85))) (r2 : Bool) (w : World) (hr0_0 : Kd.C (Kd.slice 85 k85) w A0_0 l0_0.length l0_0) (hc0_0 : l0_0.length ≤ c0_0) (hr1 : Kd.C (Kd.int .i64) w A1 l1.length l1) (hc1 : l1.length ≤ c1) (h : impl_TurnThreads.f k l0_0 l1 = some (r1, r2)) :
  Calls Try.prog 47 #[.agg #[.slice A0_0 l0_0.length c0_0], .slice A1 l1.length c1] w fun e w' => ∃ v0_ : Value, e = .returned (.tuple #[.agg #[v0_], .bool r2]) ∧ Kd.S (Kd.slice 85 k85) 82 w' w.heap.size (fun _ => True) v0_ r1 ∧ Below w.heap.size w w' := by
 have hu35 := Try.underlying35
 have HR0_0 := am_ hr0_0
 have HC0_0 := am_ hc0_0
 clear hr0_0 hc0_0
 have HR1 := am_ hr1
 have HC1 := am_ hc1
 clear hr1 hc1
 have HB := am_ (Below.refl w.heap.size w)
 have H : ((impl_ProgOk.f k l0_0).bind fun t1009 => (if t1009 = true then ((impl_isRow.f k l1 (l0_0.length : Int)).bind fun t1010 => (impl_TurnThreads.j0 k l1 (!t1010) l0_0)) else (impl_TurnThreads.j0 k l1 true l0_0))) = some (r1, r2) := h
 clear h
 have HC3 := am_ H
 clear H
 go_enter Try.func47, Try.ntmps47
 go_upto_region 1 with (first | ((with_reducible refine gate_dst (N := 2) rfl ?_); (try (refine gate_guard (by rfl) ?_; dsimp only)); refine box_event ?hg (N := 2) ?hd (cs := #[.slice A0_0 l0_0.length c0_0]) (t := 35) ?hr ?_; (case hd => rfl); (case hg => rfl); (case hr => first | (go_simp; done) | (go_simp; rfl)); intro gb1007 hg w4 hbox hb; have n0_ := am_ (below_step z47_4 hb); have n1_ := am_ (hbox); have n2_ := am_ (by rw [hg]; exact (below_size z47_4) : w.heap.size ≤ gb1007); have n3_ := am_ (by rw [hg]; exact (below_size z47_4) : w.heap.size ≤ gb1007); clear HB; have HB := n0_; have BK1007 := n1_; have GW1007 := n2_; have GE1007 := n3_; clear n0_ n1_ n2_ n3_; clear hb hbox hg) | ((with_reducible refine gate_dst (N := 4) rfl ?_); (try (refine gate_guard (by rfl) ?_; dsimp only)); refine box_event ?hg (N := 4) ?hd (cs := #[.slice none 0 0]) (t := 35) ?hr ?_; (case hd => rfl); (case hg => rfl); (case hr => first | (go_simp; done) | (go_simp; rfl)); intro gb1008 hg w5 hbox hb; have n0_ := am_ (blk_below (bu BK1007.out) hb); have n1_ := am_ (below_step z47_6 hb); have n2_ := am_ (hbox); have n3_ := am_ (by rw [hg]; exact (below_size z47_6) : w.heap.size ≤ gb1008); have n4_ := am_ (by rw [hg]; exact (below_size z47_6) : w.heap.size ≤ gb1008); have n5_ := am_ (by rw [hg]; exact Nat.ne_of_lt (blk_lt (bu BK1007.out)) : gb1007 ≠ gb1008); have n6_ := am_ (by rw [hg]; exact Nat.ne_of_gt (blk_lt (bu BK1007.out)) : gb1008 ≠ gb1007); clear BK1007 HB; have BK1007 := n0_; have HB := n1_; have BK1008 := n2_; have GW1008 := n3_; have GE1008 := n4_; have NB1007_1008 := n5_; have NB1008_1007 := n6_; clear n0_ n1_ n2_ n3_ n4_ n5_ n6_; clear hb hbox hg))
 (try simp only [Act.put, List.setIfInBounds_toArray, List.set_cons_zero, List.set_cons_succ])
 go_cut [19] (fun v19 wc => ∃ (kq : Nat) (x19_2 : Bool), v19 = .bool x19_2 ∧ Aside0 (impl_TurnThreads.j0 kq l1 x19_2 l0_0 = some (r1, r2)) ∧ Aside0 (kq ≤ k) ∧ Aside0 (wc.heap[gb1007]? = some (.cells #[(.slice A0_0 l0_0.length c0_0)] 35 (0, 0))) ∧ Aside0 (wc.heap[gb1008]? = some (.cells #[(.slice none 0 0)] 35 (0, 0))) ∧ Aside0 (Below w.heap.size w wc))
 case first =>
  have H := HC3.out
  clear HC3
  replace H := Option.bind_eq_some_iff.mp H
  obtain ⟨t1009, A60, H⟩ := H
  replace H : (if t1009 = true then ((impl_isRow.f k l1 (l0_0.length : Int)).bind fun t1010 => (impl_TurnThreads.j0 k l1 (!t1010) l0_0)) else (impl_TurnThreads.j0 k l1 true l0_0)) = some (r1, r2) := H
  have A6 := am_ A60
  clear A60
  by_cases c7 : t1009 = true
  ·subst c7
   have H1 : ((impl_isRow.f k l1 (l0_0.length : Int)).bind fun t1010 => (impl_TurnThreads.j0 k l1 (!t1010) l0_0)) = some (r1, r2) := by rw [if_pos rfl] at H; exact H
   clear H
   have H := H1
   clear H1
   replace H := Option.bind_eq_some_iff.mp H
   obtain ⟨t1010, A80, H⟩ := H
   replace H : (impl_TurnThreads.j0 k l1 (!t1010) l0_0) = some (r1, r2) := H
   have A8 := am_ A80
   clear A80
   have H' := am_ H
   clear H
   have hnb9 := NB1007_1008.out
   have hnc9 := NB1008_1007.out
   have hcz10_0 : w5.cell? ⟨gb1007, 0, none⟩ = some (.slice A0_0 l0_0.length c0_0) := (blk_cell BK1007.out 0).trans rfl
   have hfz10_0 := blk_frozen BK1007.out 0
   go_wp2_with (first | ((with_reducible refine gate_callee (f := 31) rfl ?_); refine goesL_ (some 10) rfl rfl Try.func31 (by kernel_rfl) rfl #[.agg #[.slice A0_0 l0_0.length c0_0]] rfl (by (try simp only [List.map_toArray, List.map_cons, List.map_nil]); first | done | rfl | (simp only [List.length_drop, List.length_take]; rfl)) ?_; (with_reducible refine (impl_ProgOk.calls k _ _ l0_0 true _ ?side1 ?side2 A6.out).mono ?_); (case side1 => repeat (first | exact (Kd.C_below HR0_0.out HB.out) | (with_reducible refine Kd.C_alloc ?_ _) | (with_reducible refine Kd.C_drewN ?_ _) | (with_reducible refine Kd.C_drew ?_))); (case side2 => exact HC0_0.out); rintro e w11 ⟨rfl, hb⟩; refine ⟨_, rfl, ?_⟩; have n0_ := am_ (blk_below (bu BK1007.out) hb); have n1_ := am_ (blk_below (bu BK1008.out) hb); have n2_ := am_ (below_step z47_7 hb); clear BK1007 BK1008 HB; have BK1007 := n0_; have BK1008 := n1_; have HB := n2_; clear n0_ n1_ n2_; (try clear hb); (try clear hb2); (try clear hk); (try clear hi); have hcz12_0 : w11.cell? ⟨gb1007, 0, none⟩ = some (.slice A0_0 l0_0.length c0_0) := (blk_cell BK1007.out 0).trans rfl; have hfz12_0 := blk_frozen BK1007.out 0) | (go_at_call 97; (with_reducible refine (impl_isRow.calls k _ _ l1 (l0_0.length : Int) t1010 _ ?side1 ?side2 A8.out).mono ?_); (case side1 => repeat (first | exact (Kd.C_below HR1.out HB.out) | (with_reducible refine Kd.C_alloc ?_ _) | (with_reducible refine Kd.C_drewN ?_ _) | (with_reducible refine Kd.C_drew ?_))); (case side2 => exact HC1.out); rintro e w' ⟨rfl, ⟨nd, rfl⟩⟩))
   go_meet
   case rel => exact ⟨_, (!t1010), z47_1, H', ⟨by first | omega | exact Nat.le_refl _⟩, ⟨bu BK1007.out⟩, ⟨bu BK1008.out⟩, ⟨z47_7⟩⟩
  ·replace c7 := Bool.eq_false_iff.mpr c7
   subst c7
   have H1 : (impl_TurnThreads.j0 k l1 true l0_0) = some (r1, r2) := by rw [if_neg (show ¬ (false = true) by decide)] at H; exact H
   clear H
   have H := H1
   clear H1
   have H' := am_ H
   clear H
   have hnb13 := NB1007_1008.out
   have hnc13 := NB1008_1007.out
   have hcz14_0 : w5.cell? ⟨gb1007, 0, none⟩ = some (.slice A0_0 l0_0.length c0_0) := (blk_cell BK1007.out 0).trans rfl
   have hfz14_0 := blk_frozen BK1007.out 0
   go_wp2_with (first | ((with_reducible refine gate_callee (f := 31) rfl ?_); refine goesL_ (some 10) rfl rfl Try.func31 (by kernel_rfl) rfl #[.agg #[.slice A0_0 l0_0.length c0_0]] rfl (by (try simp only [List.map_toArray, List.map_cons, List.map_nil]); first | done | rfl | (simp only [List.length_drop, List.length_take]; rfl)) ?_; (with_reducible refine (impl_ProgOk.calls k _ _ l0_0 false _ ?side1 ?side2 A6.out).mono ?_); (case side1 => repeat (first | exact (Kd.C_below HR0_0.out HB.out) | (with_reducible refine Kd.C_alloc ?_ _) | (with_reducible refine Kd.C_drewN ?_ _) | (with_reducible refine Kd.C_drew ?_))); (case side2 => exact HC0_0.out); rintro e w15 ⟨rfl, hb⟩; refine ⟨_, rfl, ?_⟩; have n0_ := am_ (blk_below (bu BK1007.out) hb); have n1_ := am_ (blk_below (bu BK1008.out) hb); have n2_ := am_ (below_step z47_7 hb); clear BK1007 BK1008 HB; have BK1007 := n0_; have BK1008 := n1_; have HB := n2_; clear n0_ n1_ n2_; (try clear hb); (try clear hb2); (try clear hk); (try clear hi)))
   go_meet
   case rel => exact ⟨_, (true), z47_1, H', ⟨by first | omega | exact Nat.le_refl _⟩, ⟨bu BK1007.out⟩, ⟨bu BK1008.out⟩, ⟨z47_7⟩⟩
 case rest =>
  clear HC3
  obtain ⟨kq, x19_2, rfl, HA, HJ2, BK1007, BK1008, HB⟩ := hcut
  cases kq with
  | zero => exact absurd HA.out (by simp [impl_TurnThreads.j0])
  | succ kj2 =>
   have H := HA.out
   clear HA
   simp only [impl_TurnThreads.j0] at H
   by_cases c16 : x19_2 = true
   ·subst c16
    have H1 : (some (([] : List (List (S85))), false)) = some (r1, r2) := by rw [if_pos rfl] at H; exact H
    clear H
    have H := H1
    clear H1
    simp only [Option.some.injEq, Prod.mk.injEq] at H
    obtain ⟨rfl, rfl⟩ := H
    have hnb17 := NB1008_1007.out
    have hnc17 := NB1007_1008.out
    have hcz18_0 : wc.cell? ⟨gb1008, 0, none⟩ = some (.slice none 0 0) := (blk_cell BK1008.out 0).trans rfl
    have hfz18_0 := blk_frozen BK1008.out 0
    go_wp2
    refine bodyPost_ret (results_ct rfl _ _ gb1008 35 #[.slice none 0 0] (0, 0) _ rfl z47_9 Try.underlying35 rfl (by kernel_rfl)) rfl ?_
    exact ⟨_, z47_3, z47_5, z47_7⟩
   ·replace c16 := Bool.eq_false_iff.mpr c16
    subst c16
    have H1 : (impl_TurnThreads.l0 kj2 l1 (l1.length : Int) 0 l0_0 ([] : List (List (S85)))) = some (r1, r2) := by rw [if_neg (show ¬ (false = true) by decide)] at H; exact H
    clear H
    have H := H1
    clear H1
    have H' := am_ H
    clear H
    go_wp2_with (first | ((with_reducible refine gate_dst (N := 6) rfl ?_); (try (refine gate_guard (by rfl) ?_; dsimp only)); refine box_event ?hg (N := 6) ?hd (cs := #[.slice none 0 0]) (t := 35) ?hr ?_; (case hd => rfl); (case hg => rfl); (case hr => first | (go_simp; done) | (go_simp; rfl)); intro gb1011 hg w19 hbox hb; have n0_ := am_ (blk_below (bu BK1007.out) hb); have n1_ := am_ (blk_below (bu BK1008.out) hb); have n2_ := am_ (below_step z47_7 hb); have n3_ := am_ (hbox); have n4_ := am_ (by rw [hg]; exact (below_size z47_7) : w.heap.size ≤ gb1011); have n5_ := am_ (by rw [hg]; exact (below_size z47_7) : w.heap.size ≤ gb1011); have n6_ := am_ (by rw [hg]; exact Nat.ne_of_lt (blk_lt (bu BK1007.out)) : gb1007 ≠ gb1011); have n7_ := am_ (by rw [hg]; exact Nat.ne_of_gt (blk_lt (bu BK1007.out)) : gb1011 ≠ gb1007); have n8_ := am_ (by rw [hg]; exact Nat.ne_of_lt (blk_lt (bu BK1008.out)) : gb1008 ≠ gb1011); have n9_ := am_ (by rw [hg]; exact Nat.ne_of_gt (blk_lt (bu BK1008.out)) : gb1011 ≠ gb1008); clear BK1007 BK1008 HB; have BK1007 := n0_; have BK1008 := n1_; have HB := n2_; have BK1011 := n3_; have GW1011 := n4_; have GE1011 := n5_; have NB1007_1011 := n6_; have NB1011_1007 := n7_; have NB1008_1011 := n8_; have NB1011_1008 := n9_; clear n0_ n1_ n2_ n3_ n4_ n5_ n6_ n7_ n8_ n9_; clear hb hbox hg))
    go_loopg [23] kj2 (fun kq v23 w' => ∃ (x23_2 : Int) (x1012000_2 : List (List (S85))) (u1012000 : Value), v23 = .int .i64 x23_2 ∧ Aside0 (impl_TurnThreads.l0 kq l1 (l1.length : Int) x23_2 l0_0 x1012000_2 = some (r1, r2)) ∧ Aside0 (kq ≤ kj2) ∧ Aside0 (Kd.S (Kd.slice 85 k85) 82 w' w.heap.size (fun _ => True) u1012000 x1012000_2) ∧ Aside0 (w'.heap[gb1007]? = some (.cells #[(.slice A0_0 l0_0.length c0_0)] 35 (0, 0))) ∧ Aside0 (w'.heap[gb1008]? = some (.cells #[(.slice none 0 0)] 35 (0, 0))) ∧ Aside0 (w'.heap[gb1011]? = some (.cells #[u1012000] 35 (0, 0))) ∧ Aside0 (Below w.heap.size w w'))
    case atStart => exact ⟨(0), (([] : List (List (S85)))), (.slice none 0 0), z47_1, H', ⟨Nat.le_refl _⟩, ⟨z47_5⟩, ⟨bu BK1007.out⟩, ⟨bu BK1008.out⟩, ⟨bu BK1011.out⟩, ⟨z47_8⟩⟩
    case round =>
     clear H'
     obtain ⟨x23_2, x1012000_2, u1012000, rfl, HA, HK2, HO_1012000, BK1007, BK1008, BK1011, HB⟩ := hrel
     cases gk with
     | zero => exact absurd HA.out (by simp [impl_TurnThreads.l0])
     | succ k2 =>
      have H := HA.out
      clear HA
      simp only [impl_TurnThreads.l0] at H
      by_cases c20 : x23_2 < (l1.length : Int)
      ·rw [if_pos c20] at H
       have c20b0 : decide (x23_2 < (l1.length : Int)) = true := decide_eq_true c20
       clear c20
       by_cases c21 : 0 ≤ x23_2
       ·rw [if_pos c21] at H
        have c21b0 : decide (0 ≤ x23_2) = true := decide_eq_true c21
        clear c21
        by_cases c22 : x23_2 < (l1.length : Int)
        ·rw [if_pos c22] at H
         have c22b0 : decide (x23_2 < (l1.length : Int)) = true := decide_eq_true c22
         clear c22
         by_cases c23 : 0 ≤ (rd l1 x23_2)
         ·rw [if_pos c23] at H
          have c23b0 : decide (0 ≤ (rd l1 x23_2)) = true := decide_eq_true c23
          clear c23
          by_cases c24 : (rd l1 x23_2) < (l0_0.length : Int)
          ·rw [if_pos c24] at H
           have c24b0 : decide ((rd l1 x23_2) < (l0_0.length : Int)) = true := decide_eq_true c24
           clear c24
           replace H := Option.bind_eq_some_iff.mp H
           obtain ⟨t1014, A250, H⟩ := H
           replace H : (if x1012000_2.length < 5864062014805 then (impl_TurnThreads.l0 k2 l1 (l1.length : Int) (wrap64 (x23_2 + 1)) l0_0 (x1012000_2 ++ [t1014])) else (none)) = some (r1, r2) := H
           have A25 := am_ A250
           clear A250
           by_cases c26 : x1012000_2.length < 5864062014805
           ·rw [if_pos c26] at H
            have LMc26 := am_ c26
            clear c26
            obtain ⟨y1017, hy1017⟩ : ∃ y_ : List (List (S85)), y_ = (x1012000_2 ++ [t1014]) := ⟨_, rfl⟩
            replace H : (impl_TurnThreads.l0 k2 l1 (l1.length : Int) (wrap64 (x23_2 + 1)) l0_0 y1017) = some (r1, r2) := by first | (rw [hy1017]; with_reducible exact H) | (have H2_ := (Option.bind_some _ _).symm.trans H; rw [hy1017]; with_reducible exact H2_) | (have H2_ := (Option.bind_some _ _).symm.trans H; with_reducible exact H2_) | with_reducible exact H | (rw [hy1017]; exact H) | exact H
            have Ny1017 := am_ hy1017
            clear hy1017
            have H' := am_ H
            clear H
            have p1012 : 0 ≤ (x23_2 : Int) := of_decide_eq_true z47_2
            have q1012 : x23_2 < (l1.length : Int) := of_decide_eq_true z47_2
            obtain ⟨ad1012, e1012, hx1012_0⟩ := Kd.at_int HR1.out x23_2 p1012 q1012
            cases e1012
            replace hx1012_0 := (HB.out.cell (World.block_lt_of_cell? w _ hx1012_0)).trans hx1012_0
            replace p1012 := eq_true p1012
            replace q1012 := eq_true q1012
            try go_wp2
            have n0_ := am_ (Kd.S_drew HO_1012000.out)
            have n1_ := am_ (blk_drew BK1007.out)
            have n2_ := am_ (blk_drew BK1008.out)
            have n3_ := am_ (blk_drew BK1011.out)
            have n4_ := am_ (below_drew1 HB.out)
            clear HO_1012000 BK1007 BK1008 BK1011 HB
            have HO_1012000 := n0_
            have BK1007 := n1_
            have BK1008 := n2_
            have BK1011 := n3_
            have HB := n4_
            clear n0_ n1_ n2_ n3_ n4_
            have p1013 : 0 ≤ ((rd l1 x23_2) : Int) := of_decide_eq_true z47_2
            have q1013 : (rd l1 x23_2) < (l0_0.length : Int) := of_decide_eq_true z47_2
            obtain ⟨ad1013, A1013_0, c1013_0, e1013, hx1013_0, hl1013_0, hi1013_0⟩ := at_L7 HR0_0.out (rd l1 x23_2) p1013 q1013
            have hw1013_0 := hx1013_0
            cases e1013
            replace hx1013_0 := (HB.out.cell (World.block_lt_of_cell? w _ hx1013_0)).trans hx1013_0
            have HR1013_0 := am_ hi1013_0
            have HC1013_0 := am_ hl1013_0
            clear hi1013_0 hl1013_0
            replace p1013 := eq_true p1013
            replace q1013 := eq_true q1013
            refine start_ (n := 12) (S := fun w' => w'.cell? ⟨gb1011, 0, none⟩ = some (u1012000) ∧ w'.cell? ⟨gb1007, 0, none⟩ = some (.slice (some ad1013) l0_0.length c0_0) ∧ w'.cell? (ad1013.add ((rd l1 x23_2)).toNat) = some (.slice A1013_0 (rd_L7 l0_0 (rd l1 x23_2)).length c1013_0)) (ds := [11]) #[false, false, false, false, false, false, false, false, false, false, false, false] (by kernel_rfl) rfl rfl ⟨(blk_cell BK1011.out 0).trans rfl, (blk_cell BK1007.out 0).trans rfl, ((HB.out.cell (World.block_lt_of_cell? w _ hw1013_0)).trans hw1013_0)⟩ (fun hHeld => ?_); refine with_tabW impl_TurnThreads.tab7 impl_TurnThreads.bits7 (fun HT_ HW_ => ?_)
            generalize wr.drew = w27 at HO_1012000 BK1007 BK1008 BK1011 HB HR1013_0 hx1013_0 hHeld ⊢
            refine pure_ (i := 0) (N := some 27) (v := ?_) (a' := ?_) #[true, false, false, false, false, false, false, false, false, false, false, false] rfl rfl (any_of HT_.out (by kernel_rfl)) (fun _ _ _ h => h) (Or.inl ⟨by rfl, ?_⟩) ?_ ?_
            rotate_left
            ·intro w'
             go_simp
             with_reducible rfl
            rotate_left
            ·simp only [Act.put, List.setIfInBounds_toArray, List.set_cons_zero, List.set_cons_succ, i64_w, i32_w]
             rfl
            refine pure_ (i := 2) (N := some 29) (v := ?_) (a' := ?_) #[true, false, true, false, false, false, false, false, false, false, false, false] rfl rfl (any_of HT_.out (by kernel_rfl)) (fun _ _ _ h => h) (Or.inl ⟨by rfl, ?_⟩) ?_ ?_
            rotate_left
            ·intro w'
             go_simp
             with_reducible rfl
            rotate_left
            ·simp only [Act.put, List.setIfInBounds_toArray, List.set_cons_zero, List.set_cons_succ, i64_w, i32_w]
             rfl
            refine pure_ (i := 4) (N := some 31) (v := ?_) (a' := ?_) #[true, false, true, false, true, false, false, false, false, false, false, false] rfl rfl (any_of HT_.out (by kernel_rfl)) (fun _ _ _ h => h) (Or.inl ⟨by rfl, ?_⟩) ?_ ?_
            rotate_left
            ·intro w'
             go_simp
             with_reducible rfl
            rotate_left
            ·simp only [Act.put, List.setIfInBounds_toArray, List.set_cons_zero, List.set_cons_succ, i64_w, i32_w]
             rfl
            refine take_ (i := 1) (N := some 28) (v := ?_) (a' := ?_) #[true, true, true, false, true, false, false, false, false, false, false, false] rfl rfl (take_ofW HT_.out HW_.out (by kernel_rfl)) (fun _ _ _ h => h) (Or.inl ⟨by rfl, ?_⟩) hHeld ?_ ?_
            rotate_left
            ·rintro w' ⟨s0, s1, s2⟩
             go_simp
             with_reducible rfl
            rotate_left
            ·simp only [Act.put, List.setIfInBounds_toArray, List.set_cons_zero, List.set_cons_succ, i64_w, i32_w]
             rfl
            refine take_ (i := 3) (N := some 30) (v := ?_) (a' := ?_) #[true, true, true, true, true, false, false, false, false, false, false, false] rfl rfl (take_ofW HT_.out HW_.out (by kernel_rfl)) (fun _ _ _ h => h) (Or.inl ⟨by rfl, ?_⟩) hHeld ?_ ?_
            rotate_left
            ·rintro w' ⟨s0, s1, s2⟩
             go_simp
             with_reducible rfl
            rotate_left
            ·simp only [Act.put, List.setIfInBounds_toArray, List.set_cons_zero, List.set_cons_succ, i64_w, i32_w]
             rfl
            refine pure_ (i := 5) (N := some 32) (v := ?_) (a' := ?_) #[true, true, true, true, true, true, false, false, false, false, false, false] rfl rfl (any_of HT_.out (by kernel_rfl)) (fun _ _ _ h => h) (Or.inl ⟨by rfl, ?_⟩) ?_ ?_
            rotate_left
            ·intro w'
             go_simp
             with_reducible rfl
            rotate_left
            ·simp only [Act.put, List.setIfInBounds_toArray, List.set_cons_zero, List.set_cons_succ, i64_w, i32_w]
             rfl
            refine take_ (i := 6) (N := some 33) (v := ?_) (a' := ?_) #[true, true, true, true, true, true, true, false, false, false, false, false] rfl rfl (take_ofW HT_.out HW_.out (by kernel_rfl)) (fun _ _ _ h => h) (Or.inl ⟨by rfl, ?_⟩) hHeld ?_ ?_
            rotate_left
            ·rintro w' ⟨s0, s1, s2⟩
             go_simp
             with_reducible rfl
            rotate_left
            ·simp only [Act.put, List.setIfInBounds_toArray, List.set_cons_zero, List.set_cons_succ, i64_w, i32_w]
             rfl
            refine one_ (i := 7) (N := some 34) #[true, true, true, true, true, true, true, true, false, false, false, false] rfl rfl (one_of HT_.out (by kernel_rfl)) (by decide) (fun K hK => ?_)
            refine goes_ Try.func98 (by kernel_rfl) rfl #[.slice A1013_0 (rd_L7 l0_0 (rd l1 x23_2)).length c1013_0] (by rfl) rfl rfl (by (try simp only [List.map_toArray, List.map_cons, List.map_nil]); first | done | rfl | (simp only [List.length_drop, List.length_take]; rfl)) ?_
            with_reducible refine (impl_Do_98.calls _ _ (rd_L7 l0_0 (rd l1 x23_2)) t1014 _ ?side1 ?side2 A25.out).mono ?_
            (case side1 => repeat (first | exact (Kd.C_below HR1013_0.out HB.out) | (with_reducible refine Kd.C_alloc ?_ _) | (with_reducible refine Kd.C_drewN ?_ _) | (with_reducible refine Kd.C_drew ?_)))
            (case side2 => exact HC1013_0.out)
            rintro e w28 ⟨v1015, rfl, ho0, hb⟩
            refine ⟨_, rfl, ?_⟩
            have n0_ := am_ (Kd.S_elder' (su HO_1012000.out) (Kd.R_base ho0) hb)
            have n1_ := am_ (Kd.R_lower ho0 (below_size z47_8))
            have n2_ := am_ (blk_below (bu BK1007.out) hb)
            have n3_ := am_ (blk_below (bu BK1008.out) hb)
            have n4_ := am_ (blk_below (bu BK1011.out) hb)
            have n5_ := am_ (below_step z47_8 hb)
            clear HO_1012000 BK1007 BK1008 BK1011 HB
            have HO_1012000 := n0_
            have HO1016 := n1_
            have BK1007 := n2_
            have BK1008 := n3_
            have BK1011 := n4_
            have HB := n5_
            clear n0_ n1_ n2_ n3_ n4_ n5_
            (try clear hb)
            (try clear hb2)
            (try clear hk)
            (try clear hi)
            (try clear ho0)
            obtain ⟨Ao30, co30, eo30⟩ := Kd.R_slice HO1016.out
            (first | subst eo30 | (injection eo30 with f1_ f2_ f3_; have f4_ := f1_.symm; have f5_ := f3_.symm; clear f1_ f2_ f3_; subst f4_; subst f5_))
            refine hK.out _ _ ⟨(blk_cell BK1011.out 0).trans rfl, (blk_cell BK1007.out 0).trans rfl, ((HB.out.cell (World.block_lt_of_cell? w _ hw1013_0)).trans hw1013_0)⟩ (fun hHeld => ?_)
            clear hK K
            refine norm_ (a' := ?_) ?_ ?_
            rotate_left
            ·show Act.put _ (some 34) _ = _
             simp only [Act.put, List.setIfInBounds_toArray, List.set_cons_zero, List.set_cons_succ, i64_w, i32_w]
             rfl
            refine one_ (i := 8) (N := some 35) #[true, true, true, true, true, true, true, true, true, false, false, false] rfl rfl (one_of HT_.out (by kernel_rfl)) (by decide) (fun K hK => ?_)
            refine value_ (w1 := ?_) (v := ?_) (by rfl) rfl ?_ ?_
            rotate_left 2
            ·go_simp
             constructor
             ·rfl
             ·rfl
            refine hK.out _ _ ⟨(blk_cell (blk_alloc BK1011.out _) 0).trans rfl, (blk_cell (blk_alloc BK1007.out _) 0).trans rfl, (World.cell?_alloc_lt _ _ _ (World.block_lt_of_cell? _ _ (((HB.out.cell (World.block_lt_of_cell? w _ hw1013_0)).trans hw1013_0)))).trans (((HB.out.cell (World.block_lt_of_cell? w _ hw1013_0)).trans hw1013_0))⟩ (fun hHeld => ?_)
            clear hK K
            refine norm_ (a' := ?_) ?_ ?_
            rotate_left
            ·show Act.put _ (some 35) _ = _
             simp only [Act.put, List.setIfInBounds_toArray, List.set_cons_zero, List.set_cons_succ, i64_w, i32_w]
             rfl
            refine one_ (i := 9) (N := some 36) #[true, true, true, true, true, true, true, true, true, true, false, false] rfl rfl (one_of HT_.out (by kernel_rfl)) (by decide) (fun K hK => ?_)
            refine Kd.S_append_step (Kd.slice 85 k85) (w0 := w) w.heap.size (by rfl) (.tmp 28) (.tmp 35) 33 82 (.slice none 0 0) 24 rfl Try.underlying33 info82 rfl (by decide) (by omega) u1012000 x1012000_2 t1014 [.slice Ao30 t1014.length co30] (fun _ => True) (fun k_ => some k_ = (.slice Ao30 t1014.length co30 : Value).ownBlock) rfl rfl ?aP (fun k_ hk_ => ((Kd.R_mono (ok' := fun k_ => ((fun _ => True)) k_ ∧ some k_ ≠ (u1012000 : Value).ownBlock) (Kd.R_apart' (HO1016.out) (Kd.S_typed HO_1012000.out) (by decide)) (fun k_ hk => ⟨trivial, hk.2⟩))).1 k_ hk_.symm) ?aF ?aO ?aB ?aS ?aL ?_
            (case aP => exact Kd.M_row (Kd.R_mono (Kd.R_tight rfl (Kd.R_mono (ok' := fun k_ => ((fun _ => True)) k_ ∧ some k_ ≠ (u1012000 : Value).ownBlock) (Kd.R_apart' (HO1016.out) (Kd.S_typed HO_1012000.out) (by decide)) (fun k_ hk => ⟨trivial, hk.2⟩))) (fun _ h_ => h_)))
            (case aB => exact z47_8)
            (case aF => exact (fun _ _ => trivial))
            (case aO => exact (su (Kd.S_mono HO_1012000.out (fun k_ hk => ⟨trivial, fun e_ => hk.2 e_⟩))))
            (case aS => exact (below_size z47_8))
            (case aL => have := LMc26.out; omega)
            intro v1018 w29 ho hb hg hat
            rw [← Ny1017.out] at ho
            have n0_ := am_ (blk_grown (bu BK1007.out) hg (Kd.S_ne HO_1012000.out BK1007.out (by decide)))
            have n1_ := am_ (blk_grown (bu BK1008.out) hg (Kd.S_ne HO_1012000.out BK1008.out (by decide)))
            have n2_ := am_ (blk_grown (bu BK1011.out) hg (Kd.S_ne HO_1012000.out BK1011.out (by decide)))
            have n3_ := am_ (hb)
            have n4_ := am_ (ho)
            clear BK1007 BK1008 BK1011 HB HO_1012000 HO1016
            have BK1007 := n0_
            have BK1008 := n1_
            have BK1011 := n2_
            have HB := n3_
            have HO1019 := n4_
            clear n0_ n1_ n2_ n3_ n4_ ho hb hg hat
            obtain ⟨Ao31, co31, eo31⟩ := Kd.S_slice HO1019.out
            (first | subst eo31 | (injection eo31 with f1_ f2_ f3_; have f4_ := f1_.symm; have f5_ := f3_.symm; clear f1_ f2_ f3_; subst f4_; subst f5_))
            refine hK.out _ _ ⟨(blk_cell BK1011.out 0).trans rfl, (blk_cell BK1007.out 0).trans rfl, ((HB.out.cell (World.block_lt_of_cell? w _ hw1013_0)).trans hw1013_0)⟩ (fun hHeld => ?_)
            clear hK K
            refine norm_ (a' := ?_) ?_ ?_
            rotate_left
            ·show Act.put _ (some 36) _ = _
             simp only [Act.put, List.setIfInBounds_toArray, List.set_cons_zero, List.set_cons_succ, i64_w, i32_w]
             rfl
            refine pure_ (i := 10) (N := some 37) (v := ?_) (a' := ?_) #[true, true, true, true, true, true, true, true, true, true, true, false] rfl rfl (any_of HT_.out (by kernel_rfl)) (fun _ _ _ h => h) (Or.inl ⟨by rfl, ?_⟩) ?_ ?_
            rotate_left
            ·intro w'
             go_simp
             with_reducible rfl
            rotate_left
            ·simp only [Act.put, List.setIfInBounds_toArray, List.set_cons_zero, List.set_cons_succ, i64_w, i32_w]
             rfl
            refine last_ (i := 11) (N := none) #[true, true, true, true, true, true, true, true, true, true, true, true] rfl rfl (one_of HT_.out (by kernel_rfl)) (by decide) (fun K hK => ?_)
            have hs32 : w29.cell? ⟨gb1011, 0, none⟩ = some (u1012000) := (blk_cell BK1011.out 0).trans rfl
            have hfs32 := blk_frozen BK1011.out 0
            have hns32_0 := NB1007_1011.out
            have hns32_1 := NB1008_1011.out
            have hms32_0 := NB1011_1007.out
            have hms32_1 := NB1011_1008.out
            refine skip_ (w1 := ?_) (by rfl) rfl ?_ ?_
            rotate_left
            ·go_simp
             rfl
            refine hK.out _ _ ?_
            clear hK K
            refine done_ (done_of HT_.out (by kernel_rfl)) ?_
            try go_wp2
            go_roundg k2
            case measure => have := HJ2.out; have := HK2.out; omega
            case rel => exact ⟨(wrap64 (x23_2 + 1)), (y1017), (.slice Ao31 y1017.length co31), z47_1, H', ⟨by have := HJ2.out; have := HK2.out; omega⟩, ⟨su (Kd.S_mono (Kd.S_far (p := ⟨gb1011, 0, none⟩) (Kd.S_types HO1019.out BK1011.out (by decide)) (fun _ hk => hk.2) (.slice Ao31 y1017.length co31)) (fun _ hk => trivial))⟩, ⟨by (with_reducible repeat (first | refine blk_drewN ?_ _ | refine blk_drew ?_ | refine blk_alloc ?_ _)); refine blk_far ?_ NB1007_1011.out _; (with_reducible repeat (first | refine blk_drewN ?_ _ | refine blk_drew ?_ | refine blk_alloc ?_ _)); exact BK1007.out⟩, ⟨by (with_reducible repeat (first | refine blk_drewN ?_ _ | refine blk_drew ?_ | refine blk_alloc ?_ _)); refine blk_far ?_ NB1008_1011.out _; (with_reducible repeat (first | refine blk_drewN ?_ _ | refine blk_drew ?_ | refine blk_alloc ?_ _)); exact BK1008.out⟩, ⟨by (with_reducible repeat (first | refine blk_drewN ?_ _ | refine blk_drew ?_ | refine blk_alloc ?_ _)); refine blk_put (cs := #[u1012000]) ?_ 0 _ rfl; (with_reducible repeat (first | refine blk_drewN ?_ _ | refine blk_drew ?_ | refine blk_alloc ?_ _)); exact BK1011.out⟩, ⟨z47_8⟩⟩
           ·rw [if_neg c26] at H
            exact absurd H (by simp)
          ·rw [if_neg c24] at H
           exact absurd H (by simp)
         ·rw [if_neg c23] at H
          exact absurd H (by simp)
        ·rw [if_neg c22] at H
         exact absurd H (by simp)
       ·rw [if_neg c21] at H
        exact absurd H (by simp)
      ·rw [if_neg c20] at H
       have c20b0 : decide (x23_2 < (l1.length : Int)) = false := decide_eq_false c20
       clear c20
       simp only [Option.some.injEq, Prod.mk.injEq] at H
       obtain ⟨rfl, rfl⟩ := H
       have hnb33 := NB1011_1007.out
       have hnc33 := NB1007_1011.out
       have hnb34 := NB1011_1008.out
       have hnc34 := NB1008_1011.out
       have hcz35_0 : wr.cell? ⟨gb1011, 0, none⟩ = some (u1012000) := (blk_cell BK1011.out 0).trans rfl
       have hfz35_0 := blk_frozen BK1011.out 0
       obtain ⟨Ao36, co36, eo36⟩ := Kd.S_slice HO_1012000.out
       subst eo36
       have hnb37 := NB1008_1007.out
       have hnc37 := NB1007_1008.out
       have hcz38_0 : wr.cell? ⟨gb1008, 0, none⟩ = some (.slice none 0 0) := (blk_cell BK1008.out 0).trans rfl
       have hfz38_0 := blk_frozen BK1008.out 0
       go_wp2
       refine bodyPost_ret (results_ct rfl _ _ gb1008 35 #[.slice Ao36 x1012000_2.length co36] (0, 0) _ rfl z47_9 Try.underlying35 rfl (by kernel_rfl)) rfl ?_
       exact ⟨_, z47_3, su (Kd.S_mono (Kd.S_far (p := ⟨gb1008, 0, none⟩) (Kd.S_types HO_1012000.out BK1008.out (by decide)) (fun _ hk => hk.2) (.slice Ao36 x1012000_2.length co36)) (fun _ hk => trivial)), z47_8⟩

end Go.Proofs.Ytefkbmhkhpekjaa.PB

namespace Go.Proofs.Ytefkbmhkhpekjaa.PB
open Go.RowKit Go.Proofs.YtefkbmhkhpekjaaW.PrintWords Go.Proofs.YtefkbmhkhpekjaaW.PrintLast Go.Proofs.YtefkbmhkhpekjaaW.PrintMore
attribute [local go_sem] max2_int min2_int max_two min_two max_three min_three max_four min_four   -- for this text's walks alone
open Go.Proofs.YtefkbmhkhpekjaaMine
set_option linter.unusedVariables false
set_option linter.unusedSimpArgs false

theorem z90_1 {p : Prop} (h : p := by repeat (first | (with_reducible first | exact HB.out | apply below_alloc | apply pw_below_drewN | apply below_drew1) | exact HB.out)) : p := h
theorem z90_2 {p : Prop} (h : p := by repeat (first | (with_reducible first | exact HB.out | apply below_alloc | apply pw_below_drewN | apply below_drew1 | refine below_set ?_ GE415.out) | exact HB.out)) : p := h
theorem z90_3 {p : Prop} (h : p := by repeat (first | (with_reducible first | exact HB.out | apply below_alloc | apply pw_below_drewN | apply below_drew1 | refine below_set ?_ GE415.out | refine below_set ?_ GE416.out) | exact HB.out)) : p := h
theorem z90_4 {p : Prop} (h : p := by repeat (first | (with_reducible first | exact HB.out | apply below_alloc | apply pw_below_drewN | apply below_drew1 | refine below_set ?_ GE415.out | refine below_set ?_ GE416.out | refine below_set ?_ GE417.out) | exact HB.out)) : p := h
/-! ### impl_Prog_copied: function 90 -/
def impl_Prog_copied.l0 : Nat → List (List (S85)) → Int → Int → List (List (S85)) → Option ((List (List (S85))))
  | 0, _, _, _, _ => none
  | k + 1, x7, x8, x9, x418000 => if x9 < x8 then (if 0 ≤ x9 then (if x9 < (x7.length : Int) then ((impl_Do_98.f (rd_L7 x7 x9)).bind fun t419 => (if x418000.length < 5864062014805 then (impl_Prog_copied.l0 k x7 x8 (wrap64 (x9 + 1)) (x418000 ++ [t419])) else (none))) else (none)) else (none)) else (some x418000)
def impl_Prog_copied.f (k : Nat) (l0_0 : List (List (S85))) : Option ((List (List (S85)))) := impl_Prog_copied.l0 k l0_0 (l0_0.length : Int) 0 ([] : List (List (S85)))
theorem impl_Prog_copied.mono_l : ∀ k, (∀ y0 y1 y2 y3, LeO (impl_Prog_copied.l0 k y0 y1 y2 y3) (impl_Prog_copied.l0 (k + 1) y0 y1 y2 y3))
  | 0 => fun _ _ _ _ r h => by simp [impl_Prog_copied.l0] at h
  | k + 1 => by
    have ih0 := impl_Prog_copied.mono_l k
    · intro y0 y1 y2 y3
      unfold impl_Prog_copied.l0
      repeat' first
      | (with_reducible exact ih0 _ _ _ _)
      | (with_reducible exact LeO.refl _)
      | (with_reducible exact LeO.none _)
      | (with_reducible refine LeO.ite ?_ ?_)
      | (with_reducible refine LeO.bind ?_ (fun _ => ?_))
      | exact ih0 _ _ _ _
      | exact LeO.none _
      | refine LeO.ite ?_ ?_
      | refine LeO.bind ?_ (fun _ => ?_)
theorem impl_Prog_copied.mono : ∀ a0 k, LeO (impl_Prog_copied.f k a0) (impl_Prog_copied.f (k + 1) a0) := by
  intro a0 k
  have ih0 := impl_Prog_copied.mono_l k
  unfold impl_Prog_copied.f
  repeat' first
      | (with_reducible exact ih0 _ _ _ _)
      | (with_reducible exact LeO.refl _)
      | (with_reducible exact LeO.none _)
      | (with_reducible refine LeO.ite ?_ ?_)
      | (with_reducible refine LeO.bind ?_ (fun _ => ?_))
      | exact ih0 _ _ _ _
      | exact LeO.none _
      | refine LeO.ite ?_ ?_
      | refine LeO.bind ?_ (fun _ => ?_)
def impl_Prog_copied.T5 : Bool × List (List Nat × List Nat) := (true, [([], []), ([0], [0]), ([], []), ([2], [2]), ([3], [3]), ([1, 4, 3], [1, 4]), ([0, 1, 2, 3, 4, 5], []), ([6, 5, 5, 0, 1, 2, 3, 4, 5], [5, 6])])
def impl_Prog_copied.B5 : List Nat := [0, 1, 0, 4, 12, 31, 63, 127]
theorem impl_Prog_copied.tab5 : rtab .any (opsOf Try.f90 5) = impl_Prog_copied.T5 := by kernel_rfl
theorem impl_Prog_copied.bits5 : waitsOk impl_Prog_copied.T5.2 impl_Prog_copied.B5 = true := by kernel_rfl
set_option maxHeartbeats 8000000 in
set_option maxRecDepth 100000 in
theorem impl_Prog_copied.calls (k : Nat) (A0_0 : Option Addr) (c0_0 : Nat) (l0_0 : List (List (S85))) (r : List (List (S85))) (w : World) (hr0_0 : Kd.C (Kd.slice 85 k85) w A0_0 l0_0.length l0_0) (hc0_0 : l0_0.length ≤ c0_0) (h : impl_Prog_copied.f k l0_0 = some r) :
  Calls Try.prog 90 #[.agg #[.slice A0_0 l0_0.length c0_0]] w fun e w' => ∃ v0_ : Value, e = .returned (.agg #[v0_]) ∧ Kd.S (Kd.slice 85 k85) 82 w' w.heap.size (fun _ => True) v0_ r ∧ Below w.heap.size w w' := by
 have hu35 := Try.underlying35
 have HR0_0 := am_ hr0_0
 have HC0_0 := am_ hc0_0
 clear hr0_0 hc0_0
 have HB := am_ (Below.refl w.heap.size w)
 have H : (impl_Prog_copied.l0 k l0_0 (l0_0.length : Int) 0 ([] : List (List (S85)))) = some r := h
 clear h
 have H' := am_ H
 clear H
 go_enter Try.func90, Try.ntmps90
 go_wp2_with (first | ((with_reducible refine gate_dst (N := 1) rfl ?_); refine box_event ?hg (N := 1) ?hd (cs := #[.slice A0_0 l0_0.length c0_0]) (t := 35) ?hr ?_; (case hd => rfl); (case hg => rfl); (case hr => first | (go_simp; done) | (go_simp; rfl)); intro gb415 hg w2 hbox hb; have n0_ := am_ (below_step z90_1 hb); have n1_ := am_ (hbox); have n2_ := am_ (by rw [hg]; exact (below_size z90_1) : w.heap.size ≤ gb415); have n3_ := am_ (by rw [hg]; exact (below_size z90_1) : w.heap.size ≤ gb415); clear HB; have HB := n0_; have BK415 := n1_; have GW415 := n2_; have GE415 := n3_; clear n0_ n1_ n2_ n3_; clear hb hbox hg) | ((with_reducible refine gate_dst (N := 2) rfl ?_); refine box_event ?hg (N := 2) ?hd (cs := #[.slice none 0 0]) (t := 35) ?hr ?_; (case hd => rfl); (case hg => rfl); (case hr => first | (go_simp; done) | (go_simp; rfl)); intro gb416 hg w3 hbox hb; have n0_ := am_ (blk_below (bu BK415.out) hb); have n1_ := am_ (below_step z90_2 hb); have n2_ := am_ (hbox); have n3_ := am_ (by rw [hg]; exact (below_size z90_2) : w.heap.size ≤ gb416); have n4_ := am_ (by rw [hg]; exact (below_size z90_2) : w.heap.size ≤ gb416); have n5_ := am_ (by rw [hg]; exact Nat.ne_of_lt (blk_lt (bu BK415.out)) : gb415 ≠ gb416); have n6_ := am_ (by rw [hg]; exact Nat.ne_of_gt (blk_lt (bu BK415.out)) : gb416 ≠ gb415); clear BK415 HB; have BK415 := n0_; have HB := n1_; have BK416 := n2_; have GW416 := n3_; have GE416 := n4_; have NB415_416 := n5_; have NB416_415 := n6_; clear n0_ n1_ n2_ n3_ n4_ n5_ n6_; clear hb hbox hg) | ((with_reducible refine gate_dst (N := 3) rfl ?_); refine box_event ?hg (N := 3) ?hd (cs := #[.slice none 0 0]) (t := 35) ?hr ?_; (case hd => rfl); (case hg => rfl); (case hr => first | (go_simp; done) | (go_simp; rfl)); intro gb417 hg w4 hbox hb; have n0_ := am_ (blk_below (bu BK415.out) hb); have n1_ := am_ (blk_below (bu BK416.out) hb); have n2_ := am_ (below_step z90_3 hb); have n3_ := am_ (hbox); have n4_ := am_ (by rw [hg]; exact (below_size z90_3) : w.heap.size ≤ gb417); have n5_ := am_ (by rw [hg]; exact (below_size z90_3) : w.heap.size ≤ gb417); have n6_ := am_ (by rw [hg]; exact Nat.ne_of_lt (blk_lt (bu BK415.out)) : gb415 ≠ gb417); have n7_ := am_ (by rw [hg]; exact Nat.ne_of_gt (blk_lt (bu BK415.out)) : gb417 ≠ gb415); have n8_ := am_ (by rw [hg]; exact Nat.ne_of_lt (blk_lt (bu BK416.out)) : gb416 ≠ gb417); have n9_ := am_ (by rw [hg]; exact Nat.ne_of_gt (blk_lt (bu BK416.out)) : gb417 ≠ gb416); clear BK415 BK416 HB; have BK415 := n0_; have BK416 := n1_; have HB := n2_; have BK417 := n3_; have GW417 := n4_; have GE417 := n5_; have NB415_417 := n6_; have NB417_415 := n7_; have NB416_417 := n8_; have NB417_416 := n9_; clear n0_ n1_ n2_ n3_ n4_ n5_ n6_ n7_ n8_ n9_; clear hb hbox hg; have hnb5 := NB415_416.out; have hnc5 := NB416_415.out; have hnb6 := NB415_417.out; have hnc6 := NB417_415.out; have hcz7_0 : w4.cell? ⟨gb415, 0, none⟩ = some (.slice A0_0 l0_0.length c0_0) := (blk_cell BK415.out 0).trans rfl; have hfz7_0 := blk_frozen BK415.out 0))
 go_loopg [9] k (fun kq v9 w' => ∃ (x9_1 : Int) (x418000_1 : List (List (S85))) (u418000 : Value), v9 = .int .i64 x9_1 ∧ Aside0 (impl_Prog_copied.l0 kq l0_0 (l0_0.length : Int) x9_1 x418000_1 = some r) ∧ Aside0 (kq ≤ k) ∧ Aside0 (Kd.S (Kd.slice 85 k85) 82 w' w.heap.size (fun _ => True) u418000 x418000_1) ∧ Aside0 (w'.heap[gb415]? = some (.cells #[(.slice A0_0 l0_0.length c0_0)] 35 (0, 0))) ∧ Aside0 (w'.heap[gb416]? = some (.cells #[(.slice none 0 0)] 35 (0, 0))) ∧ Aside0 (w'.heap[gb417]? = some (.cells #[u418000] 35 (0, 0))) ∧ Aside0 (Below w.heap.size w w'))
 case atStart => exact ⟨(0), (([] : List (List (S85)))), (.slice none 0 0), (by first | rfl | (simp; done) | (simp [*]; done)), H', ⟨Nat.le_refl _⟩, ⟨by first | exact Kd.S_nil _ _ _ _ _ | exact Kd.N_nil _ _ _ _ _ | exact Kd.V_nil _ _ _ _ _ | exact Kd.Q_nil _ _ _ _ _ | exact Kd.R_nil _ _ _ _ _⟩, ⟨bu BK415.out⟩, ⟨bu BK416.out⟩, ⟨bu BK417.out⟩, ⟨z90_4⟩⟩
 case round =>
  clear H'
  obtain ⟨x9_1, x418000_1, u418000, rfl, HA, HK1, HO_418000, BK415, BK416, BK417, HB⟩ := hrel
  cases gk with
  | zero => exact absurd HA.out (by simp [impl_Prog_copied.l0])
  | succ k1 =>
   have H := HA.out
   clear HA
   simp only [impl_Prog_copied.l0] at H
   by_cases c8 : x9_1 < (l0_0.length : Int)
   ·rw [if_pos c8] at H
    have c8b0 : decide (x9_1 < (l0_0.length : Int)) = true := decide_eq_true c8
    clear c8
    by_cases c9 : 0 ≤ x9_1
    ·rw [if_pos c9] at H
     have c9b0 : decide (0 ≤ x9_1) = true := decide_eq_true c9
     clear c9
     by_cases c10 : x9_1 < (l0_0.length : Int)
     ·rw [if_pos c10] at H
      have c10b0 : decide (x9_1 < (l0_0.length : Int)) = true := decide_eq_true c10
      clear c10
      replace H := Option.bind_eq_some_iff.mp H
      obtain ⟨t419, A110, H⟩ := H
      replace H : (if x418000_1.length < 5864062014805 then (impl_Prog_copied.l0 k1 l0_0 (l0_0.length : Int) (wrap64 (x9_1 + 1)) (x418000_1 ++ [t419])) else (none)) = some r := H
      have A11 := am_ A110
      clear A110
      by_cases c12 : x418000_1.length < 5864062014805
      ·rw [if_pos c12] at H
       have LMc12 := am_ c12
       clear c12
       obtain ⟨y422, hy422⟩ : ∃ y_ : List (List (S85)), y_ = (x418000_1 ++ [t419]) := ⟨_, rfl⟩
       replace H : (impl_Prog_copied.l0 k1 l0_0 (l0_0.length : Int) (wrap64 (x9_1 + 1)) y422) = some r := by first | (rw [hy422]; with_reducible exact H) | (have H2_ := (Option.bind_some _ _).symm.trans H; rw [hy422]; with_reducible exact H2_) | (have H2_ := (Option.bind_some _ _).symm.trans H; with_reducible exact H2_) | with_reducible exact H | (rw [hy422]; exact H) | exact H
       have Ny422 := am_ hy422
       clear hy422
       have H' := am_ H
       clear H
       have p418 : 0 ≤ (x9_1 : Int) := of_decide_eq_true (by first | (with_reducible assumption) | assumption)
       have q418 : x9_1 < (l0_0.length : Int) := of_decide_eq_true (by first | (with_reducible assumption) | assumption)
       obtain ⟨ad418, A418_0, c418_0, e418, hx418_0, hl418_0, hi418_0⟩ := at_L7 HR0_0.out x9_1 p418 q418
       cases e418
       replace hx418_0 := (HB.out.cell (World.block_lt_of_cell? w _ hx418_0)).trans hx418_0
       have HR418_0 := am_ hi418_0
       have HC418_0 := am_ hl418_0
       clear hi418_0 hl418_0
       replace p418 := eq_true p418
       replace q418 := eq_true q418
       try go_wp2
       have n0_ := am_ (Kd.S_drew HO_418000.out)
       have n1_ := am_ (blk_drew BK415.out)
       have n2_ := am_ (blk_drew BK416.out)
       have n3_ := am_ (blk_drew BK417.out)
       have n4_ := am_ (below_drew1 HB.out)
       clear HO_418000 BK415 BK416 BK417 HB
       have HO_418000 := n0_
       have BK415 := n1_
       have BK416 := n2_
       have BK417 := n3_
       have HB := n4_
       clear n0_ n1_ n2_ n3_ n4_
       refine start_ (n := 8) (S := fun w' => w'.cell? ⟨gb417, 0, none⟩ = some (u418000)) (ds := [7]) #[false, false, false, false, false, false, false, false] (by kernel_rfl) rfl rfl ((blk_cell BK417.out 0).trans rfl) (fun hHeld => ?_); refine with_tabW impl_Prog_copied.tab5 impl_Prog_copied.bits5 (fun HT_ HW_ => ?_)
       generalize wr.drew = w13 at HO_418000 BK415 BK416 BK417 HB hHeld ⊢
       refine pure_ (i := 0) (N := some 13) (v := ?_) (a' := ?_) #[true, false, false, false, false, false, false, false] rfl rfl (any_of HT_.out (by kernel_rfl)) (fun _ _ _ h => h) (Or.inl ⟨by rfl, ?_⟩) ?_ ?_
       rotate_left
       ·intro w'
        go_simp
        with_reducible rfl
       rotate_left
       ·simp only [Act.put, List.setIfInBounds_toArray, List.set_cons_zero, List.set_cons_succ, i64_w, i32_w]
        rfl
       refine pure_ (i := 2) (N := some 15) (v := ?_) (a' := ?_) #[true, false, true, false, false, false, false, false] rfl rfl (any_of HT_.out (by kernel_rfl)) (fun _ _ _ h => h) (Or.inl ⟨by rfl, ?_⟩) ?_ ?_
       rotate_left
       ·intro w'
        go_simp
        with_reducible rfl
       rotate_left
       ·simp only [Act.put, List.setIfInBounds_toArray, List.set_cons_zero, List.set_cons_succ, i64_w, i32_w]
        rfl
       refine take_ (i := 1) (N := some 14) (v := ?_) (a' := ?_) #[true, true, true, false, false, false, false, false] rfl rfl (take_ofW HT_.out HW_.out (by kernel_rfl)) (fun _ _ _ h => h) (Or.inl ⟨by rfl, ?_⟩) hHeld ?_ ?_
       rotate_left
       ·intro w' s0
        go_simp
        with_reducible rfl
       rotate_left
       ·simp only [Act.put, List.setIfInBounds_toArray, List.set_cons_zero, List.set_cons_succ, i64_w, i32_w]
        rfl
       refine one_ (i := 3) (N := some 16) #[true, true, true, true, false, false, false, false] rfl rfl (one_of HT_.out (by kernel_rfl)) (by decide) (fun K hK => ?_)
       refine goes_ Try.func98 (by kernel_rfl) rfl #[.slice A418_0 (rd_L7 l0_0 x9_1).length c418_0] (by rfl) rfl rfl (by (try simp only [List.map_toArray, List.map_cons, List.map_nil]); first | done | rfl | (simp only [List.length_drop, List.length_take]; rfl)) ?_
       with_reducible refine (impl_Do_98.calls _ _ (rd_L7 l0_0 x9_1) t419 _ ?side1 ?side2 A11.out).mono ?_
       (case side1 => repeat (first | exact (Kd.C_below HR418_0.out HB.out) | (with_reducible refine Kd.C_alloc ?_ _) | (with_reducible refine Kd.C_drewN ?_ _) | (with_reducible refine Kd.C_drew ?_)))
       (case side2 => exact HC418_0.out)
       rintro e w14 ⟨v420, rfl, ho0, hb⟩
       refine ⟨_, rfl, ?_⟩
       have n0_ := am_ (Kd.S_elder' (su HO_418000.out) (Kd.R_base ho0) hb)
       have n1_ := am_ (Kd.R_lower ho0 (below_size z90_4))
       have n2_ := am_ (blk_below (bu BK415.out) hb)
       have n3_ := am_ (blk_below (bu BK416.out) hb)
       have n4_ := am_ (blk_below (bu BK417.out) hb)
       have n5_ := am_ (below_step z90_4 hb)
       clear HO_418000 BK415 BK416 BK417 HB
       have HO_418000 := n0_
       have HO421 := n1_
       have BK415 := n2_
       have BK416 := n3_
       have BK417 := n4_
       have HB := n5_
       clear n0_ n1_ n2_ n3_ n4_ n5_
       (try clear hb)
       (try clear hb2)
       (try clear hk)
       (try clear hi)
       (try clear ho0)
       obtain ⟨Ao16, co16, eo16⟩ := Kd.R_slice HO421.out
       (first | subst eo16 | (injection eo16 with f1_ f2_ f3_; have f4_ := f1_.symm; have f5_ := f3_.symm; clear f1_ f2_ f3_; subst f4_; subst f5_))
       refine hK.out _ _ ((blk_cell BK417.out 0).trans rfl) (fun hHeld => ?_)
       clear hK K
       refine norm_ (a' := ?_) ?_ ?_
       rotate_left
       ·show Act.put _ (some 16) _ = _
        simp only [Act.put, List.setIfInBounds_toArray, List.set_cons_zero, List.set_cons_succ, i64_w, i32_w]
        rfl
       refine one_ (i := 4) (N := some 17) #[true, true, true, true, true, false, false, false] rfl rfl (one_of HT_.out (by kernel_rfl)) (by decide) (fun K hK => ?_)
       refine value_ (w1 := ?_) (v := ?_) (by rfl) rfl ?_ ?_
       rotate_left 2
       ·go_simp
        constructor
        ·rfl
        ·rfl
       refine hK.out _ _ ((blk_cell (blk_alloc BK417.out _) 0).trans rfl) (fun hHeld => ?_)
       clear hK K
       refine norm_ (a' := ?_) ?_ ?_
       rotate_left
       ·show Act.put _ (some 17) _ = _
        simp only [Act.put, List.setIfInBounds_toArray, List.set_cons_zero, List.set_cons_succ, i64_w, i32_w]
        rfl
       refine one_ (i := 5) (N := some 18) #[true, true, true, true, true, true, false, false] rfl rfl (one_of HT_.out (by kernel_rfl)) (by decide) (fun K hK => ?_)
       refine Kd.S_append_step (Kd.slice 85 k85) (w0 := w) w.heap.size (by rfl) (.tmp 14) (.tmp 17) 33 82 (.slice none 0 0) 24 rfl Try.underlying33 info82 rfl (by decide) (by omega) u418000 x418000_1 t419 [.slice Ao16 t419.length co16] (fun _ => True) (fun k_ => some k_ = (.slice Ao16 t419.length co16 : Value).ownBlock) rfl rfl ?aP (fun k_ hk_ => ((Kd.R_mono (ok' := fun k_ => ((fun _ => True)) k_ ∧ some k_ ≠ (u418000 : Value).ownBlock) (Kd.R_apart' (HO421.out) (Kd.S_typed HO_418000.out) (by decide)) (fun k_ hk => ⟨trivial, hk.2⟩))).1 k_ hk_.symm) ?aF ?aO ?aB ?aS ?aL ?_
       (case aP => exact Kd.M_row (Kd.R_mono (Kd.R_tight rfl (Kd.R_mono (ok' := fun k_ => ((fun _ => True)) k_ ∧ some k_ ≠ (u418000 : Value).ownBlock) (Kd.R_apart' (HO421.out) (Kd.S_typed HO_418000.out) (by decide)) (fun k_ hk => ⟨trivial, hk.2⟩))) (fun _ h_ => h_)))
       (case aB => exact z90_4)
       (case aF => exact (fun _ _ => trivial))
       (case aO => exact (su (Kd.S_mono HO_418000.out (fun k_ hk => ⟨trivial, fun e_ => hk.2 e_⟩))))
       (case aS => exact (below_size z90_4))
       (case aL => have := LMc12.out; omega)
       intro v423 w15 ho hb hg hat
       rw [← Ny422.out] at ho
       have n0_ := am_ (blk_grown (bu BK415.out) hg (Kd.S_ne HO_418000.out BK415.out (by decide)))
       have n1_ := am_ (blk_grown (bu BK416.out) hg (Kd.S_ne HO_418000.out BK416.out (by decide)))
       have n2_ := am_ (blk_grown (bu BK417.out) hg (Kd.S_ne HO_418000.out BK417.out (by decide)))
       have n3_ := am_ (hb)
       have n4_ := am_ (ho)
       clear BK415 BK416 BK417 HB HO_418000 HO421
       have BK415 := n0_
       have BK416 := n1_
       have BK417 := n2_
       have HB := n3_
       have HO424 := n4_
       clear n0_ n1_ n2_ n3_ n4_ ho hb hg hat
       obtain ⟨Ao17, co17, eo17⟩ := Kd.S_slice HO424.out
       (first | subst eo17 | (injection eo17 with f1_ f2_ f3_; have f4_ := f1_.symm; have f5_ := f3_.symm; clear f1_ f2_ f3_; subst f4_; subst f5_))
       refine hK.out _ _ ((blk_cell BK417.out 0).trans rfl) (fun hHeld => ?_)
       clear hK K
       refine norm_ (a' := ?_) ?_ ?_
       rotate_left
       ·show Act.put _ (some 18) _ = _
        simp only [Act.put, List.setIfInBounds_toArray, List.set_cons_zero, List.set_cons_succ, i64_w, i32_w]
        rfl
       refine pure_ (i := 6) (N := some 19) (v := ?_) (a' := ?_) #[true, true, true, true, true, true, true, false] rfl rfl (any_of HT_.out (by kernel_rfl)) (fun _ _ _ h => h) (Or.inl ⟨by rfl, ?_⟩) ?_ ?_
       rotate_left
       ·intro w'
        go_simp
        with_reducible rfl
       rotate_left
       ·simp only [Act.put, List.setIfInBounds_toArray, List.set_cons_zero, List.set_cons_succ, i64_w, i32_w]
        rfl
       refine last_ (i := 7) (N := none) #[true, true, true, true, true, true, true, true] rfl rfl (one_of HT_.out (by kernel_rfl)) (by decide) (fun K hK => ?_)
       have hs18 : w15.cell? ⟨gb417, 0, none⟩ = some (u418000) := (blk_cell BK417.out 0).trans rfl
       have hfs18 := blk_frozen BK417.out 0
       have hns18_0 := NB415_417.out
       have hns18_1 := NB416_417.out
       have hms18_0 := NB417_415.out
       have hms18_1 := NB417_416.out
       refine skip_ (w1 := ?_) (by rfl) rfl ?_ ?_
       rotate_left
       ·go_simp
        rfl
       refine hK.out _ _ ?_
       clear hK K
       refine done_ (done_of HT_.out (by kernel_rfl)) ?_
       try go_wp2
       go_roundg k1
       case measure => have := HK1.out; omega
       case rel => exact ⟨(wrap64 (x9_1 + 1)), (y422), (.slice Ao17 y422.length co17), (by first | rfl | (simp; done) | (simp [*]; done)), H', ⟨by have := HK1.out; omega⟩, ⟨su (Kd.S_mono (Kd.S_far (p := ⟨gb417, 0, none⟩) (Kd.S_types HO424.out BK417.out (by decide)) (fun _ hk => hk.2) (.slice Ao17 y422.length co17)) (fun _ hk => trivial))⟩, ⟨by (with_reducible repeat (first | refine blk_drewN ?_ _ | refine blk_drew ?_ | refine blk_alloc ?_ _)); refine blk_far ?_ NB415_417.out _; (with_reducible repeat (first | refine blk_drewN ?_ _ | refine blk_drew ?_ | refine blk_alloc ?_ _)); exact BK415.out⟩, ⟨by (with_reducible repeat (first | refine blk_drewN ?_ _ | refine blk_drew ?_ | refine blk_alloc ?_ _)); refine blk_far ?_ NB416_417.out _; (with_reducible repeat (first | refine blk_drewN ?_ _ | refine blk_drew ?_ | refine blk_alloc ?_ _)); exact BK416.out⟩, ⟨by (with_reducible repeat (first | refine blk_drewN ?_ _ | refine blk_drew ?_ | refine blk_alloc ?_ _)); refine blk_put (cs := #[u418000]) ?_ 0 _ rfl; (with_reducible repeat (first | refine blk_drewN ?_ _ | refine blk_drew ?_ | refine blk_alloc ?_ _)); exact BK417.out⟩, ⟨z90_4⟩⟩
      ·rw [if_neg c12] at H
       exact absurd H (by simp)
     ·rw [if_neg c10] at H
      exact absurd H (by simp)
    ·rw [if_neg c9] at H
     exact absurd H (by simp)
   ·rw [if_neg c8] at H
    have c8b0 : decide (x9_1 < (l0_0.length : Int)) = false := decide_eq_false c8
    clear c8
    obtain rfl := Option.some.inj H
    have hnb19 := NB417_415.out
    have hnc19 := NB415_417.out
    have hnb20 := NB417_416.out
    have hnc20 := NB416_417.out
    have hcz21_0 : wr.cell? ⟨gb417, 0, none⟩ = some (u418000) := (blk_cell BK417.out 0).trans rfl
    have hfz21_0 := blk_frozen BK417.out 0
    obtain ⟨Ao22, co22, eo22⟩ := Kd.S_slice HO_418000.out
    subst eo22
    have hnb23 := NB416_415.out
    have hnc23 := NB415_416.out
    have hcz24_0 : wr.cell? ⟨gb416, 0, none⟩ = some (.slice none 0 0) := (blk_cell BK416.out 0).trans rfl
    have hfz24_0 := blk_frozen BK416.out 0
    go_wp2
    refine bodyPost_ret (results_cell_row rfl _ _ gb416 35 #[.slice Ao22 x418000_1.length co22] (0, 0) _ rfl (by (with_reducible repeat (first | refine blk_drewN ?_ _ | refine blk_drew ?_ | refine blk_alloc ?_ _)); refine blk_put (cs := #[.slice none 0 0]) ?_ 0 _ rfl; (with_reducible repeat (first | refine blk_drewN ?_ _ | refine blk_drew ?_ | refine blk_alloc ?_ _)); exact BK416.out) Try.underlying35 rfl (by kernel_rfl)) rfl ?_
    exact ⟨_, by first | rfl | (simp [errW_none, errW_some] <;> rfl) | (simp [*, errW_none, errW_some] <;> rfl), su (Kd.S_mono (Kd.S_far (p := ⟨gb416, 0, none⟩) (Kd.S_types HO_418000.out BK416.out (by decide)) (fun _ hk => hk.2) (.slice Ao22 x418000_1.length co22)) (fun _ hk => trivial)), z90_4⟩

end Go.Proofs.Ytefkbmhkhpekjaa.PB

namespace Go.Proofs.Ytefkbmhkhpekjaa.PB
open Go.RowKit Go.Proofs.YtefkbmhkhpekjaaW.PrintWords Go.Proofs.YtefkbmhkhpekjaaW.PrintLast Go.Proofs.YtefkbmhkhpekjaaW.PrintMore
attribute [local go_sem] max2_int min2_int max_two min_two max_three min_three max_four min_four   -- for this text's walks alone
open Go.Proofs.YtefkbmhkhpekjaaMine
set_option linter.unusedVariables false
set_option linter.unusedSimpArgs false

theorem z82_1 {p : Prop} (h : p := by injection e with e; omega) : p := h
theorem z82_2 {p : Prop} (h : p := by injection hk with hk; rw [← hk]; exact HRn.out) : p := h
theorem z82_3 {p : Prop} (h : p := by simp only [List.length_append, List.length_cons]; omega) : p := h
/-! ### impl_Prog_each: function 82 -/
def mapO {α β : Type} (F : α → Option β) : List α → Option (List β)
  | [] => some []
  | x :: xs => (F x).bind fun y => (mapO F xs).bind fun ys => some (y :: ys)
set_option maxRecDepth 100000 in
set_option maxHeartbeats 8000000 in
theorem each83 (k : Nat) (F : S85 → Option S85) (cv : Value) (A : Option Addr) (c : Nat) (l cl r : List (List S85)) (w : World) (hC : Kd.C (Kd.slice 85 k85) w A l.length l) (hc : l.length ≤ c)
    (hcl : ∀ (W : World) (d r : S85), Below w.heap.size w W → F d = some r → Calls Try.prog 83 #[.agg #[.int .i64 d.f0, .int .i64 d.f1, .int .i64 d.f2], cv] W fun e W' => e = .returned (.agg #[.int .i64 r.f0, .int .i64 r.f1, .int .i64 r.f2]) ∧ Below W.heap.size W W')
    (h1 : impl_Prog_copied.f k l = some cl) (h2 : mapO (mapO F) cl = some r) :
    Calls Try.prog 82 #[.agg #[.slice A l.length c], .func (.func 83) #[] #[cv]] w fun e w' => ∃ v_ : Value, e = .returned (.agg #[v_]) ∧ Kd.S (Kd.slice 85 k85) 82 w' w.heap.size (fun _ => True) v_ r ∧ Below w.heap.size w w' := by
  have HC := am_ hC
  have HF := am_ hcl
  have H1 := am_ h1
  have H2 := am_ h2
  clear hC hcl h1 h2
  go_enter Try.func82, Try.ntmps82
  go_wp2_with (go_at_call 90; refine park ?_)
  refine ⟨?_⟩
  have BR0 := am_ (heap_alloc_new (w.alloc (Obj.cells #[Value.slice A l.length c] 35)) (Obj.cells #[Value.slice none 0 0] 35))
  refine (impl_Prog_copied.calls k A c l cl _ (Kd.C_alloc (Kd.C_alloc HC.out _) _) hc H1.out).mono ?_
  rintro e w1 ⟨v0, rfl, hS, hb⟩
  obtain ⟨Av, cv0, rfl⟩ := Kd.S_slice hS
  have SZ : ((w.alloc (Obj.cells #[Value.slice A l.length c] 35)).alloc (Obj.cells #[Value.slice none 0 0] 35)).heap.size = w.heap.size + 2 := by rw [World.size_alloc, World.size_alloc]
  rw [World.size_alloc] at BR0
  have hcl : cl.length ≤ 9223372036854775807 := (Kd.R_reads' (Kd.S_R hS)).2.2.2.1
  have HB1 := am_ (below_then (below_alloc (below_alloc (Below.refl w.heap.size w) _) _) (below_alloc (below_alloc (Below.refl w.heap.size w) _) _).size hb)
  have BR1 := am_ (blk_below BR0.out hb)
  have hS2 := Kd.S_bound hS
  rw [SZ] at hS2
  have HS1 := am_ (Kd.S_lower (Kd.S_mono (ok' := fun k => w.heap.size + 2 ≤ k ∧ k < w1.heap.size) hS2 (fun k hk => ⟨hk.2.1, hk.2.2.1⟩)) (show w.heap.size ≤ w.heap.size + 2 by omega))
  have LT1 := am_ (show w.heap.size + 2 ≤ w1.heap.size by have := hb.size; omega)
  clear hS hS2 hb BR0 SZ
  have BP2 := am_ (heap_alloc_new w1 (Obj.cells #[Value.slice Av cl.length cv0] 35))
  have HB2 := am_ (below_alloc HB1.out (Obj.cells #[Value.slice Av cl.length cv0] 35))
  have BR2 := am_ (blk_alloc BR1.out (Obj.cells #[Value.slice Av cl.length cv0] 35))
  have HS2 := am_ (Kd.S_alloc HS1.out (Obj.cells #[Value.slice Av cl.length cv0] 35))
  clear HB1 BR1 HS1
  go_wp2_with fail
  go_loopg [15] cl.length (fun kq v15 w' => ∃ (done rest rest' : List (List S85)), v15 = .int .i64 done.length ∧ rest.length = kq ∧ Aside0 (done.length + rest.length = cl.length) ∧ Aside0 (mapO (mapO F) rest = some rest') ∧ Aside0 (r = done ++ rest') ∧
    Aside0 (Kd.S (Kd.slice 85 k85) 82 w' w.heap.size (fun k => w.heap.size + 2 ≤ k ∧ k < w1.heap.size) (.slice Av cl.length cv0) (done ++ rest)) ∧ Aside0 (Below w.heap.size w w') ∧ Aside0 (w'.heap[w.heap.size + 1]? = some (Obj.cells #[Value.slice none 0 0] 35)) ∧ Aside0 (w'.heap[w1.heap.size]? = some (Obj.cells #[Value.slice Av cl.length cv0] 35)))
  case atStart => exact ⟨[], cl, r, rfl, rfl, ⟨by simp⟩, H2, ⟨rfl⟩, HS2, HB2, BR2, BP2⟩
  case round =>
    obtain ⟨done, rest, rest', rfl, hkq, HL, HM, HR, HSr, HBr, BRr, BPr⟩ := hrel
    clear HB2 BR2 BP2 HS2 HC H1 H2
    cases rest with
    | nil =>
      have hrs' : rest' = [] := by have := HM.out; simp only [mapO, Option.some.injEq] at this; exact this.symm
      subst hrs'
      have hge : ¬ (done.length : Int) < (cl.length : Int) := by have := HL.out; simp only [List.length_nil] at this; omega
      have hcp : wr.cell? ⟨w1.heap.size, 0, none⟩ = some (.slice Av cl.length cv0) := (blk_cell BPr.out 0).trans rfl
      have hcr : wr.cell? ⟨w.heap.size + 1, 0, none⟩ = some (.slice none 0 0) := (blk_cell BRr.out 0).trans rfl
      have hfr := blk_frozen BRr.out 0
      go_wp2_with fail
      refine bodyPost_ret (results_cell_row rfl _ _ (w.heap.size + 1) 35 #[.slice Av cl.length cv0] (0, 0) _ rfl (blk_set BRr.out 0 _) Try.underlying35 rfl (by kernel_rfl)) rfl ?_
      refine ⟨_, rfl, ?_, below_set HBr.out (by omega)⟩
      have h := HSr.out
      rw [List.append_nil] at h
      have e := HR.out
      rw [List.append_nil] at e
      rw [e]
      exact Kd.S_mono (Kd.S_far (p := ⟨w.heap.size + 1, 0, none⟩) h (fun k hk => by show k ≠ w.heap.size + 1; omega) _) (fun _ _ => trivial)
    | cons row rest1 =>
      have HMM := HM.out
      clear HM
      simp only [mapO] at HMM
      obtain ⟨row', hm1, HMM⟩ := Option.bind_eq_some_iff.mp HMM
      obtain ⟨rest1', hm2, HMM⟩ := Option.bind_eq_some_iff.mp HMM
      simp only [Option.some.injEq] at HMM
      subst HMM
      have M1 := am_ hm1
      have M2 := am_ hm2
      clear hm1 hm2
      have hlt : (done.length : Int) < (cl.length : Int) := by have := HL.out; simp only [List.length_cons] at this; omega
      obtain ⟨g, cap, eA, hg0, hgl, cells, hcells⟩ := Kd.S_form HSr.out z82_3
      have hS := HSr.out
      have eL : (done ++ row :: rest1).length = cl.length := by have := HL.out; simpa using this
      rw [eL] at eA
      rw [eA] at hS
      obtain ⟨oki, cs, hlen, hM, hcc, hoki, hH⟩ := Kd.S_lend hS [] (done.length : Int) (by omega) (by omega)
      rw [show (done ++ row :: rest1).getD (done.length : Int).toNat [] = row by simp] at hM
      obtain ⟨u, rfl, hRu⟩ := hM
      obtain ⟨Au, cu, rfl⟩ := Kd.R_slice hRu
      have hcu : wr.cell? ⟨g, done.length, none⟩ = some (.slice Au row.length cu) := by have h1 := hcc 0 _ rfl; rwa [show (done.length : Int).toNat * (Kd.slice 85 k85).sz + 0 = done.length from by show (done.length : Int).toNat * 1 + 0 = _; omega] at h1
      have hfu := blk_frozen hcells done.length
      have HRu := am_ hRu
      have HHr := am_ hH
      have HOK := am_ hoki
      clear hcells hRu hH hoki hS hcc
      go_wp2_with fail
      clear hcu hfu
      have hrl : row.length ≤ 9223372036854775807 := (Kd.R_reads' HRu.out).2.2.2.1
      go_loopg [21] row.length (fun jq v21 W => ∃ (dn rs rs' : List S85), v21 = .int .i64 dn.length ∧ rs.length = jq ∧ Aside0 (dn.length + rs.length = row.length) ∧ Aside0 (mapO F rs = some rs') ∧ Aside0 (row' = dn ++ rs') ∧
        Aside0 (Kd.R k85 85 W w.heap.size oki (.slice Au row.length cu) (dn ++ rs)) ∧ Aside0 (Kd.H (Kd.slice 85 k85) 82 W w.heap.size (fun k => w.heap.size + 2 ≤ k ∧ k < w1.heap.size) (.slice (some ⟨g, 0, none⟩) cl.length cv0) (done ++ row :: rest1) done.length oki [.slice Au row.length cu]) ∧
        Aside0 (Below w.heap.size w W) ∧ Aside0 (W.heap[w.heap.size + 1]? = some (Obj.cells #[Value.slice none 0 0] 35)) ∧ Aside0 (W.heap[w1.heap.size]? = some (Obj.cells #[Value.slice (some ⟨g, 0, none⟩) cl.length cv0] 35)))
      case atStart => exact ⟨[], row, row', rfl, rfl, ⟨by simp⟩, M1, ⟨rfl⟩, HRu, HHr, HBr, BRr, BPr⟩
      case round =>
        obtain ⟨dn, rs, rs', rfl, hjq, HLi, HMi, HRi, HRw, HHw, HBw, BRw, BPw⟩ := hrel
        clear HRu HHr HBr BRr BPr M1 HSr
        cases rs with
        | nil =>
          have hrs' : rs' = [] := by have := HMi.out; simp only [mapO, Option.some.injEq] at this; exact this.symm
          subst hrs'
          have hge : ¬ (dn.length : Int) < (row.length : Int) := by have := HLi.out; simp only [List.length_nil] at this; omega
          have HSn := am_ (show Kd.S (Kd.slice 85 k85) 82 wr w.heap.size (fun k => w.heap.size + 2 ≤ k ∧ k < w1.heap.size) (.slice (some ⟨g, 0, none⟩) cl.length cv0) (done ++ [row'] ++ rest1) from by
            have h := Kd.H_back HHw.out (Kd.M_row HRw.out) (fun k hk => hk)
            rw [show (done ++ row :: rest1).set (done.length : Int).toNat (dn ++ []) = done ++ [row'] ++ rest1 from by rw [Int.toNat_natCast, List.set_append_right _ _ (Nat.le_refl _), HRi.out]; simp] at h
            exact h)
          clear HRw HHw
          go_wp2_with fail
          go_roundg rest1.length
          case measure => simp only [List.length_cons] at hkq; omega
          case rel => exact ⟨done ++ [row'], rest1, rest1', by simp, rfl, ⟨by have := HL.out; simp only [List.length_cons] at this; simp only [List.length_append, List.length_singleton]; omega⟩, M2, ⟨by rw [HR.out]; simp⟩, HSn, HBw, BRw, BPw⟩
        | cons d rs1 =>
          have HMM := HMi.out
          clear HMi
          simp only [mapO] at HMM
          obtain ⟨d', hm1, HMM⟩ := Option.bind_eq_some_iff.mp HMM
          obtain ⟨rs1', hm3, HMM⟩ := Option.bind_eq_some_iff.mp HMM
          simp only [Option.some.injEq] at HMM
          subst HMM
          have N1 := am_ hm1
          have N2 := am_ hm3
          clear hm1 hm3
          have hlti : (dn.length : Int) < (row.length : Int) := by have := HLi.out; simp only [List.length_cons] at this; omega
          obtain ⟨gi, capi, eAi, hgi0, hgil, cellsi, hcellsi⟩ := Kd.R_form HRw.out z82_3
          have hR := HRw.out
          have eLi : (dn ++ d :: rs1).length = row.length := by have := HLi.out; simpa using this
          rw [eLi] at eAi
          rw [eAi] at hR
          obtain ⟨ce, hce, hMe, hcce, hfre⟩ := Kd.R_elem hR z85 (dn.length : Int) (by omega) (by omega)
          rw [show (dn ++ d :: rs1).getD (dn.length : Int).toNat z85 = d by simp] at hMe
          obtain rfl := k85_openM hMe
          have hx0 := hcce 0 _ rfl
          have hx1 := hcce 1 _ rfl
          have hx2 := hcce 2 _ rfl
          rw [show (dn.length : Int).toNat * (k85).sz + 0 = dn.length * 3 from by show (dn.length : Int).toNat * 3 + 0 = _; omega] at hx0
          rw [show (dn.length : Int).toNat * (k85).sz + 1 = dn.length * 3 + 1 from by show (dn.length : Int).toNat * 3 + 1 = _; omega] at hx1
          rw [show (dn.length : Int).toNat * (k85).sz + 2 = dn.length * 3 + 2 from by show (dn.length : Int).toNat * 3 + 2 = _; omega] at hx2
          have HRo := am_ hR
          clear hMe hR hcce hfre
          go_wp2_with (go_at_call 83; refine park ?_)
          clear hx0 hx1 hx2
          refine ⟨?_⟩
          refine (HF.out _ d d' (below_alloc HBw.out _) N1.out).mono ?_
          rintro e w2 ⟨rfl, hb⟩
          have HB3 := am_ (below_then (below_alloc HBw.out (Obj.cells #[Value.int IntKind.i64 d.f0, Value.int IntKind.i64 d.f1, Value.int IntKind.i64 d.f2] 85)) (below_alloc HBw.out (Obj.cells #[Value.int IntKind.i64 d.f0, Value.int IntKind.i64 d.f1, Value.int IntKind.i64 d.f2] 85)).size hb)
          have hR3 := Kd.R_below (Kd.R_alloc HRo.out (Obj.cells #[Value.int IntKind.i64 d.f0, Value.int IntKind.i64 d.f1, Value.int IntKind.i64 d.f2] 85)) hb
          have HH3 := am_ (Kd.H_below (Kd.H_alloc HHw.out (Obj.cells #[Value.int IntKind.i64 d.f0, Value.int IntKind.i64 d.f1, Value.int IntKind.i64 d.f2] 85)) hb)
          have BR3 := am_ (blk_below (blk_alloc BRw.out (Obj.cells #[Value.int IntKind.i64 d.f0, Value.int IntKind.i64 d.f1, Value.int IntKind.i64 d.f2] 85)) hb)
          have BP3 := am_ (blk_below (blk_alloc BPw.out (Obj.cells #[Value.int IntKind.i64 d.f0, Value.int IntKind.i64 d.f1, Value.int IntKind.i64 d.f2] 85)) hb)
          have HRn := am_ (HRw.out.1 gi rfl)
          clear HBw HHw BRw BPw HRo HRw hb
          obtain ⟨ce, hce, hMe, hcce, hfre⟩ := Kd.R_elem hR3 z85 (dn.length : Int) (by omega) (by omega)
          rw [show (dn ++ d :: rs1).getD (dn.length : Int).toNat z85 = d by simp] at hMe
          obtain rfl := k85_openM hMe
          have HP := am_ (Kd.R_seg hR3 (dn.length : Int) (by omega) (by omega) (seg := [.int .i64 d'.f0, .int .i64 d'.f1, .int .i64 d'.f2]) (j := 0) hce hcce (show 3 ≤ 3 from by decide) (x' := d') (k85_mkM _ _ _ d') (fun _ hk => hk))
          have hx0 := hcce 0 _ rfl
          have hx1 := hcce 1 _ rfl
          have hx2 := hcce 2 _ rfl
          have hf0 := hfre 0
          have hf1 := hfre 1
          have hf2 := hfre 2
          have e0 : (dn.length : Int).toNat * (k85).sz + 0 = dn.length * 3 := by show (dn.length : Int).toNat * 3 + 0 = _; omega
          have e1 : (dn.length : Int).toNat * (k85).sz + 1 = dn.length * 3 + 1 := by show (dn.length : Int).toNat * 3 + 1 = _; omega
          have e2 : (dn.length : Int).toNat * (k85).sz + 2 = dn.length * 3 + 2 := by show (dn.length : Int).toNat * 3 + 2 = _; omega
          rw [e0] at hx0 hf0
          rw [e1] at hx1 hf1
          rw [e2] at hx2 hf2
          clear e0 e1 e2 hMe hcce hfre hR3
          have HP' := am_ (show Kd.R k85 85 (((w2.setCell ⟨gi, dn.length * 3, none⟩ (.int .i64 d'.f0)).setCell ⟨gi, dn.length * 3 + 1, none⟩ (.int .i64 d'.f1)).setCell ⟨gi, dn.length * 3 + 2, none⟩ (.int .i64 d'.f2)) w.heap.size oki (.slice (some ⟨gi, 0, none⟩) row.length cu) (dn ++ [d'] ++ rs1) ∧ w2.grownBy (((w2.setCell ⟨gi, dn.length * 3, none⟩ (.int .i64 d'.f0)).setCell ⟨gi, dn.length * 3 + 1, none⟩ (.int .i64 d'.f1)).setCell ⟨gi, dn.length * 3 + 2, none⟩ (.int .i64 d'.f2)) (some gi) from by
            have h := HP.out
            rw [show (dn.length : Int).toNat * (k85).sz + 0 = dn.length * 3 from by show (dn.length : Int).toNat * 3 + 0 = _; omega, show (dn ++ d :: rs1).set (dn.length : Int).toNat d' = dn ++ [d'] ++ rs1 from by rw [Int.toNat_natCast, List.set_append_right _ _ (Nat.le_refl _)]; simp] at h
            exact h)
          clear HP
          go_wp2_with fail
          clear hx0 hx1 hx2 hf0 hf1 hf2
          go_roundg rs1.length
          case measure => simp only [List.length_cons] at hjq; omega
          case rel =>
            have hOKn := (HOK.out _ HRn.out).1
            exact ⟨dn ++ [d'], rs1, rs1', by simp, rfl, ⟨by have := HLi.out; simp only [List.length_cons] at this; simp only [List.length_append, List.length_singleton]; omega⟩, N2, ⟨by rw [HRi.out]; simp⟩, ⟨HP'.out.1⟩, ⟨Kd.H_grown HH3.out HP'.out.2 (fun k hk => z82_2)⟩,
              ⟨HB3.out.grown HP'.out.2 HB3.out.size (fun k hk => by injection hk with hk; omega)⟩, ⟨blk_grown BR3.out HP'.out.2 (fun e => z82_1)⟩, ⟨blk_grown BP3.out HP'.out.2 (fun e => z82_1)⟩⟩
set_option maxRecDepth 100000 in
set_option maxHeartbeats 8000000 in
theorem each99 (k : Nat) (F : S85 → Option S85) (cv : Value) (A : Option Addr) (c : Nat) (l cl r : List (List S85)) (w : World) (hC : Kd.C (Kd.slice 85 k85) w A l.length l) (hc : l.length ≤ c)
    (hcl : ∀ (W : World) (d r : S85), Below w.heap.size w W → F d = some r → Calls Try.prog 99 #[.agg #[.int .i64 d.f0, .int .i64 d.f1, .int .i64 d.f2], cv] W fun e W' => e = .returned (.agg #[.int .i64 r.f0, .int .i64 r.f1, .int .i64 r.f2]) ∧ Below W.heap.size W W')
    (h1 : impl_Prog_copied.f k l = some cl) (h2 : mapO (mapO F) cl = some r) :
    Calls Try.prog 82 #[.agg #[.slice A l.length c], .func (.func 99) #[] #[cv]] w fun e w' => ∃ v_ : Value, e = .returned (.agg #[v_]) ∧ Kd.S (Kd.slice 85 k85) 82 w' w.heap.size (fun _ => True) v_ r ∧ Below w.heap.size w w' := by
  have HC := am_ hC
  have HF := am_ hcl
  have H1 := am_ h1
  have H2 := am_ h2
  clear hC hcl h1 h2
  go_enter Try.func82, Try.ntmps82
  go_wp2_with (go_at_call 90; refine park ?_)
  refine ⟨?_⟩
  have BR0 := am_ (heap_alloc_new (w.alloc (Obj.cells #[Value.slice A l.length c] 35)) (Obj.cells #[Value.slice none 0 0] 35))
  refine (impl_Prog_copied.calls k A c l cl _ (Kd.C_alloc (Kd.C_alloc HC.out _) _) hc H1.out).mono ?_
  rintro e w1 ⟨v0, rfl, hS, hb⟩
  obtain ⟨Av, cv0, rfl⟩ := Kd.S_slice hS
  have SZ : ((w.alloc (Obj.cells #[Value.slice A l.length c] 35)).alloc (Obj.cells #[Value.slice none 0 0] 35)).heap.size = w.heap.size + 2 := by rw [World.size_alloc, World.size_alloc]
  rw [World.size_alloc] at BR0
  have hcl : cl.length ≤ 9223372036854775807 := (Kd.R_reads' (Kd.S_R hS)).2.2.2.1
  have HB1 := am_ (below_then (below_alloc (below_alloc (Below.refl w.heap.size w) _) _) (below_alloc (below_alloc (Below.refl w.heap.size w) _) _).size hb)
  have BR1 := am_ (blk_below BR0.out hb)
  have hS2 := Kd.S_bound hS
  rw [SZ] at hS2
  have HS1 := am_ (Kd.S_lower (Kd.S_mono (ok' := fun k => w.heap.size + 2 ≤ k ∧ k < w1.heap.size) hS2 (fun k hk => ⟨hk.2.1, hk.2.2.1⟩)) (show w.heap.size ≤ w.heap.size + 2 by omega))
  have LT1 := am_ (show w.heap.size + 2 ≤ w1.heap.size by have := hb.size; omega)
  clear hS hS2 hb BR0 SZ
  have BP2 := am_ (heap_alloc_new w1 (Obj.cells #[Value.slice Av cl.length cv0] 35))
  have HB2 := am_ (below_alloc HB1.out (Obj.cells #[Value.slice Av cl.length cv0] 35))
  have BR2 := am_ (blk_alloc BR1.out (Obj.cells #[Value.slice Av cl.length cv0] 35))
  have HS2 := am_ (Kd.S_alloc HS1.out (Obj.cells #[Value.slice Av cl.length cv0] 35))
  clear HB1 BR1 HS1
  go_wp2_with fail
  go_loopg [15] cl.length (fun kq v15 w' => ∃ (done rest rest' : List (List S85)), v15 = .int .i64 done.length ∧ rest.length = kq ∧ Aside0 (done.length + rest.length = cl.length) ∧ Aside0 (mapO (mapO F) rest = some rest') ∧ Aside0 (r = done ++ rest') ∧
    Aside0 (Kd.S (Kd.slice 85 k85) 82 w' w.heap.size (fun k => w.heap.size + 2 ≤ k ∧ k < w1.heap.size) (.slice Av cl.length cv0) (done ++ rest)) ∧ Aside0 (Below w.heap.size w w') ∧ Aside0 (w'.heap[w.heap.size + 1]? = some (Obj.cells #[Value.slice none 0 0] 35)) ∧ Aside0 (w'.heap[w1.heap.size]? = some (Obj.cells #[Value.slice Av cl.length cv0] 35)))
  case atStart => exact ⟨[], cl, r, rfl, rfl, ⟨by simp⟩, H2, ⟨rfl⟩, HS2, HB2, BR2, BP2⟩
  case round =>
    obtain ⟨done, rest, rest', rfl, hkq, HL, HM, HR, HSr, HBr, BRr, BPr⟩ := hrel
    clear HB2 BR2 BP2 HS2 HC H1 H2
    cases rest with
    | nil =>
      have hrs' : rest' = [] := by have := HM.out; simp only [mapO, Option.some.injEq] at this; exact this.symm
      subst hrs'
      have hge : ¬ (done.length : Int) < (cl.length : Int) := by have := HL.out; simp only [List.length_nil] at this; omega
      have hcp : wr.cell? ⟨w1.heap.size, 0, none⟩ = some (.slice Av cl.length cv0) := (blk_cell BPr.out 0).trans rfl
      have hcr : wr.cell? ⟨w.heap.size + 1, 0, none⟩ = some (.slice none 0 0) := (blk_cell BRr.out 0).trans rfl
      have hfr := blk_frozen BRr.out 0
      go_wp2_with fail
      refine bodyPost_ret (results_cell_row rfl _ _ (w.heap.size + 1) 35 #[.slice Av cl.length cv0] (0, 0) _ rfl (blk_set BRr.out 0 _) Try.underlying35 rfl (by kernel_rfl)) rfl ?_
      refine ⟨_, rfl, ?_, below_set HBr.out (by omega)⟩
      have h := HSr.out
      rw [List.append_nil] at h
      have e := HR.out
      rw [List.append_nil] at e
      rw [e]
      exact Kd.S_mono (Kd.S_far (p := ⟨w.heap.size + 1, 0, none⟩) h (fun k hk => by show k ≠ w.heap.size + 1; omega) _) (fun _ _ => trivial)
    | cons row rest1 =>
      have HMM := HM.out
      clear HM
      simp only [mapO] at HMM
      obtain ⟨row', hm1, HMM⟩ := Option.bind_eq_some_iff.mp HMM
      obtain ⟨rest1', hm2, HMM⟩ := Option.bind_eq_some_iff.mp HMM
      simp only [Option.some.injEq] at HMM
      subst HMM
      have M1 := am_ hm1
      have M2 := am_ hm2
      clear hm1 hm2
      have hlt : (done.length : Int) < (cl.length : Int) := by have := HL.out; simp only [List.length_cons] at this; omega
      obtain ⟨g, cap, eA, hg0, hgl, cells, hcells⟩ := Kd.S_form HSr.out z82_3
      have hS := HSr.out
      have eL : (done ++ row :: rest1).length = cl.length := by have := HL.out; simpa using this
      rw [eL] at eA
      rw [eA] at hS
      obtain ⟨oki, cs, hlen, hM, hcc, hoki, hH⟩ := Kd.S_lend hS [] (done.length : Int) (by omega) (by omega)
      rw [show (done ++ row :: rest1).getD (done.length : Int).toNat [] = row by simp] at hM
      obtain ⟨u, rfl, hRu⟩ := hM
      obtain ⟨Au, cu, rfl⟩ := Kd.R_slice hRu
      have hcu : wr.cell? ⟨g, done.length, none⟩ = some (.slice Au row.length cu) := by have h1 := hcc 0 _ rfl; rwa [show (done.length : Int).toNat * (Kd.slice 85 k85).sz + 0 = done.length from by show (done.length : Int).toNat * 1 + 0 = _; omega] at h1
      have hfu := blk_frozen hcells done.length
      have HRu := am_ hRu
      have HHr := am_ hH
      have HOK := am_ hoki
      clear hcells hRu hH hoki hS hcc
      go_wp2_with fail
      clear hcu hfu
      have hrl : row.length ≤ 9223372036854775807 := (Kd.R_reads' HRu.out).2.2.2.1
      go_loopg [21] row.length (fun jq v21 W => ∃ (dn rs rs' : List S85), v21 = .int .i64 dn.length ∧ rs.length = jq ∧ Aside0 (dn.length + rs.length = row.length) ∧ Aside0 (mapO F rs = some rs') ∧ Aside0 (row' = dn ++ rs') ∧
        Aside0 (Kd.R k85 85 W w.heap.size oki (.slice Au row.length cu) (dn ++ rs)) ∧ Aside0 (Kd.H (Kd.slice 85 k85) 82 W w.heap.size (fun k => w.heap.size + 2 ≤ k ∧ k < w1.heap.size) (.slice (some ⟨g, 0, none⟩) cl.length cv0) (done ++ row :: rest1) done.length oki [.slice Au row.length cu]) ∧
        Aside0 (Below w.heap.size w W) ∧ Aside0 (W.heap[w.heap.size + 1]? = some (Obj.cells #[Value.slice none 0 0] 35)) ∧ Aside0 (W.heap[w1.heap.size]? = some (Obj.cells #[Value.slice (some ⟨g, 0, none⟩) cl.length cv0] 35)))
      case atStart => exact ⟨[], row, row', rfl, rfl, ⟨by simp⟩, M1, ⟨rfl⟩, HRu, HHr, HBr, BRr, BPr⟩
      case round =>
        obtain ⟨dn, rs, rs', rfl, hjq, HLi, HMi, HRi, HRw, HHw, HBw, BRw, BPw⟩ := hrel
        clear HRu HHr HBr BRr BPr M1 HSr
        cases rs with
        | nil =>
          have hrs' : rs' = [] := by have := HMi.out; simp only [mapO, Option.some.injEq] at this; exact this.symm
          subst hrs'
          have hge : ¬ (dn.length : Int) < (row.length : Int) := by have := HLi.out; simp only [List.length_nil] at this; omega
          have HSn := am_ (show Kd.S (Kd.slice 85 k85) 82 wr w.heap.size (fun k => w.heap.size + 2 ≤ k ∧ k < w1.heap.size) (.slice (some ⟨g, 0, none⟩) cl.length cv0) (done ++ [row'] ++ rest1) from by
            have h := Kd.H_back HHw.out (Kd.M_row HRw.out) (fun k hk => hk)
            rw [show (done ++ row :: rest1).set (done.length : Int).toNat (dn ++ []) = done ++ [row'] ++ rest1 from by rw [Int.toNat_natCast, List.set_append_right _ _ (Nat.le_refl _), HRi.out]; simp] at h
            exact h)
          clear HRw HHw
          go_wp2_with fail
          go_roundg rest1.length
          case measure => simp only [List.length_cons] at hkq; omega
          case rel => exact ⟨done ++ [row'], rest1, rest1', by simp, rfl, ⟨by have := HL.out; simp only [List.length_cons] at this; simp only [List.length_append, List.length_singleton]; omega⟩, M2, ⟨by rw [HR.out]; simp⟩, HSn, HBw, BRw, BPw⟩
        | cons d rs1 =>
          have HMM := HMi.out
          clear HMi
          simp only [mapO] at HMM
          obtain ⟨d', hm1, HMM⟩ := Option.bind_eq_some_iff.mp HMM
          obtain ⟨rs1', hm3, HMM⟩ := Option.bind_eq_some_iff.mp HMM
          simp only [Option.some.injEq] at HMM
          subst HMM
          have N1 := am_ hm1
          have N2 := am_ hm3
          clear hm1 hm3
          have hlti : (dn.length : Int) < (row.length : Int) := by have := HLi.out; simp only [List.length_cons] at this; omega
          obtain ⟨gi, capi, eAi, hgi0, hgil, cellsi, hcellsi⟩ := Kd.R_form HRw.out z82_3
          have hR := HRw.out
          have eLi : (dn ++ d :: rs1).length = row.length := by have := HLi.out; simpa using this
          rw [eLi] at eAi
          rw [eAi] at hR
          obtain ⟨ce, hce, hMe, hcce, hfre⟩ := Kd.R_elem hR z85 (dn.length : Int) (by omega) (by omega)
          rw [show (dn ++ d :: rs1).getD (dn.length : Int).toNat z85 = d by simp] at hMe
          obtain rfl := k85_openM hMe
          have hx0 := hcce 0 _ rfl
          have hx1 := hcce 1 _ rfl
          have hx2 := hcce 2 _ rfl
          rw [show (dn.length : Int).toNat * (k85).sz + 0 = dn.length * 3 from by show (dn.length : Int).toNat * 3 + 0 = _; omega] at hx0
          rw [show (dn.length : Int).toNat * (k85).sz + 1 = dn.length * 3 + 1 from by show (dn.length : Int).toNat * 3 + 1 = _; omega] at hx1
          rw [show (dn.length : Int).toNat * (k85).sz + 2 = dn.length * 3 + 2 from by show (dn.length : Int).toNat * 3 + 2 = _; omega] at hx2
          have HRo := am_ hR
          clear hMe hR hcce hfre
          go_wp2_with (go_at_call 99; refine park ?_)
          clear hx0 hx1 hx2
          refine ⟨?_⟩
          refine (HF.out _ d d' (below_alloc HBw.out _) N1.out).mono ?_
          rintro e w2 ⟨rfl, hb⟩
          have HB3 := am_ (below_then (below_alloc HBw.out (Obj.cells #[Value.int IntKind.i64 d.f0, Value.int IntKind.i64 d.f1, Value.int IntKind.i64 d.f2] 85)) (below_alloc HBw.out (Obj.cells #[Value.int IntKind.i64 d.f0, Value.int IntKind.i64 d.f1, Value.int IntKind.i64 d.f2] 85)).size hb)
          have hR3 := Kd.R_below (Kd.R_alloc HRo.out (Obj.cells #[Value.int IntKind.i64 d.f0, Value.int IntKind.i64 d.f1, Value.int IntKind.i64 d.f2] 85)) hb
          have HH3 := am_ (Kd.H_below (Kd.H_alloc HHw.out (Obj.cells #[Value.int IntKind.i64 d.f0, Value.int IntKind.i64 d.f1, Value.int IntKind.i64 d.f2] 85)) hb)
          have BR3 := am_ (blk_below (blk_alloc BRw.out (Obj.cells #[Value.int IntKind.i64 d.f0, Value.int IntKind.i64 d.f1, Value.int IntKind.i64 d.f2] 85)) hb)
          have BP3 := am_ (blk_below (blk_alloc BPw.out (Obj.cells #[Value.int IntKind.i64 d.f0, Value.int IntKind.i64 d.f1, Value.int IntKind.i64 d.f2] 85)) hb)
          have HRn := am_ (HRw.out.1 gi rfl)
          clear HBw HHw BRw BPw HRo HRw hb
          obtain ⟨ce, hce, hMe, hcce, hfre⟩ := Kd.R_elem hR3 z85 (dn.length : Int) (by omega) (by omega)
          rw [show (dn ++ d :: rs1).getD (dn.length : Int).toNat z85 = d by simp] at hMe
          obtain rfl := k85_openM hMe
          have HP := am_ (Kd.R_seg hR3 (dn.length : Int) (by omega) (by omega) (seg := [.int .i64 d'.f0, .int .i64 d'.f1, .int .i64 d'.f2]) (j := 0) hce hcce (show 3 ≤ 3 from by decide) (x' := d') (k85_mkM _ _ _ d') (fun _ hk => hk))
          have hx0 := hcce 0 _ rfl
          have hx1 := hcce 1 _ rfl
          have hx2 := hcce 2 _ rfl
          have hf0 := hfre 0
          have hf1 := hfre 1
          have hf2 := hfre 2
          have e0 : (dn.length : Int).toNat * (k85).sz + 0 = dn.length * 3 := by show (dn.length : Int).toNat * 3 + 0 = _; omega
          have e1 : (dn.length : Int).toNat * (k85).sz + 1 = dn.length * 3 + 1 := by show (dn.length : Int).toNat * 3 + 1 = _; omega
          have e2 : (dn.length : Int).toNat * (k85).sz + 2 = dn.length * 3 + 2 := by show (dn.length : Int).toNat * 3 + 2 = _; omega
          rw [e0] at hx0 hf0
          rw [e1] at hx1 hf1
          rw [e2] at hx2 hf2
          clear e0 e1 e2 hMe hcce hfre hR3
          have HP' := am_ (show Kd.R k85 85 (((w2.setCell ⟨gi, dn.length * 3, none⟩ (.int .i64 d'.f0)).setCell ⟨gi, dn.length * 3 + 1, none⟩ (.int .i64 d'.f1)).setCell ⟨gi, dn.length * 3 + 2, none⟩ (.int .i64 d'.f2)) w.heap.size oki (.slice (some ⟨gi, 0, none⟩) row.length cu) (dn ++ [d'] ++ rs1) ∧ w2.grownBy (((w2.setCell ⟨gi, dn.length * 3, none⟩ (.int .i64 d'.f0)).setCell ⟨gi, dn.length * 3 + 1, none⟩ (.int .i64 d'.f1)).setCell ⟨gi, dn.length * 3 + 2, none⟩ (.int .i64 d'.f2)) (some gi) from by
            have h := HP.out
            rw [show (dn.length : Int).toNat * (k85).sz + 0 = dn.length * 3 from by show (dn.length : Int).toNat * 3 + 0 = _; omega, show (dn ++ d :: rs1).set (dn.length : Int).toNat d' = dn ++ [d'] ++ rs1 from by rw [Int.toNat_natCast, List.set_append_right _ _ (Nat.le_refl _)]; simp] at h
            exact h)
          clear HP
          go_wp2_with fail
          clear hx0 hx1 hx2 hf0 hf1 hf2
          go_roundg rs1.length
          case measure => simp only [List.length_cons] at hjq; omega
          case rel =>
            have hOKn := (HOK.out _ HRn.out).1
            exact ⟨dn ++ [d'], rs1, rs1', by simp, rfl, ⟨by have := HLi.out; simp only [List.length_cons] at this; simp only [List.length_append, List.length_singleton]; omega⟩, N2, ⟨by rw [HRi.out]; simp⟩, ⟨HP'.out.1⟩, ⟨Kd.H_grown HH3.out HP'.out.2 (fun k hk => z82_2)⟩,
              ⟨HB3.out.grown HP'.out.2 HB3.out.size (fun k hk => by injection hk with hk; omega)⟩, ⟨blk_grown BR3.out HP'.out.2 (fun e => z82_1)⟩, ⟨blk_grown BP3.out HP'.out.2 (fun e => z82_1)⟩⟩
set_option maxRecDepth 100000 in
set_option maxHeartbeats 8000000 in
theorem each102 (k : Nat) (F : S85 → Option S85) (cv : Value) (A : Option Addr) (c : Nat) (l cl r : List (List S85)) (w : World) (hC : Kd.C (Kd.slice 85 k85) w A l.length l) (hc : l.length ≤ c)
    (hcl : ∀ (W : World) (d r : S85), Below w.heap.size w W → F d = some r → Calls Try.prog 102 #[.agg #[.int .i64 d.f0, .int .i64 d.f1, .int .i64 d.f2], cv] W fun e W' => e = .returned (.agg #[.int .i64 r.f0, .int .i64 r.f1, .int .i64 r.f2]) ∧ Below W.heap.size W W')
    (h1 : impl_Prog_copied.f k l = some cl) (h2 : mapO (mapO F) cl = some r) :
    Calls Try.prog 82 #[.agg #[.slice A l.length c], .func (.func 102) #[] #[cv]] w fun e w' => ∃ v_ : Value, e = .returned (.agg #[v_]) ∧ Kd.S (Kd.slice 85 k85) 82 w' w.heap.size (fun _ => True) v_ r ∧ Below w.heap.size w w' := by
  have HC := am_ hC
  have HF := am_ hcl
  have H1 := am_ h1
  have H2 := am_ h2
  clear hC hcl h1 h2
  go_enter Try.func82, Try.ntmps82
  go_wp2_with (go_at_call 90; refine park ?_)
  refine ⟨?_⟩
  have BR0 := am_ (heap_alloc_new (w.alloc (Obj.cells #[Value.slice A l.length c] 35)) (Obj.cells #[Value.slice none 0 0] 35))
  refine (impl_Prog_copied.calls k A c l cl _ (Kd.C_alloc (Kd.C_alloc HC.out _) _) hc H1.out).mono ?_
  rintro e w1 ⟨v0, rfl, hS, hb⟩
  obtain ⟨Av, cv0, rfl⟩ := Kd.S_slice hS
  have SZ : ((w.alloc (Obj.cells #[Value.slice A l.length c] 35)).alloc (Obj.cells #[Value.slice none 0 0] 35)).heap.size = w.heap.size + 2 := by rw [World.size_alloc, World.size_alloc]
  rw [World.size_alloc] at BR0
  have hcl : cl.length ≤ 9223372036854775807 := (Kd.R_reads' (Kd.S_R hS)).2.2.2.1
  have HB1 := am_ (below_then (below_alloc (below_alloc (Below.refl w.heap.size w) _) _) (below_alloc (below_alloc (Below.refl w.heap.size w) _) _).size hb)
  have BR1 := am_ (blk_below BR0.out hb)
  have hS2 := Kd.S_bound hS
  rw [SZ] at hS2
  have HS1 := am_ (Kd.S_lower (Kd.S_mono (ok' := fun k => w.heap.size + 2 ≤ k ∧ k < w1.heap.size) hS2 (fun k hk => ⟨hk.2.1, hk.2.2.1⟩)) (show w.heap.size ≤ w.heap.size + 2 by omega))
  have LT1 := am_ (show w.heap.size + 2 ≤ w1.heap.size by have := hb.size; omega)
  clear hS hS2 hb BR0 SZ
  have BP2 := am_ (heap_alloc_new w1 (Obj.cells #[Value.slice Av cl.length cv0] 35))
  have HB2 := am_ (below_alloc HB1.out (Obj.cells #[Value.slice Av cl.length cv0] 35))
  have BR2 := am_ (blk_alloc BR1.out (Obj.cells #[Value.slice Av cl.length cv0] 35))
  have HS2 := am_ (Kd.S_alloc HS1.out (Obj.cells #[Value.slice Av cl.length cv0] 35))
  clear HB1 BR1 HS1
  go_wp2_with fail
  go_loopg [15] cl.length (fun kq v15 w' => ∃ (done rest rest' : List (List S85)), v15 = .int .i64 done.length ∧ rest.length = kq ∧ Aside0 (done.length + rest.length = cl.length) ∧ Aside0 (mapO (mapO F) rest = some rest') ∧ Aside0 (r = done ++ rest') ∧
    Aside0 (Kd.S (Kd.slice 85 k85) 82 w' w.heap.size (fun k => w.heap.size + 2 ≤ k ∧ k < w1.heap.size) (.slice Av cl.length cv0) (done ++ rest)) ∧ Aside0 (Below w.heap.size w w') ∧ Aside0 (w'.heap[w.heap.size + 1]? = some (Obj.cells #[Value.slice none 0 0] 35)) ∧ Aside0 (w'.heap[w1.heap.size]? = some (Obj.cells #[Value.slice Av cl.length cv0] 35)))
  case atStart => exact ⟨[], cl, r, rfl, rfl, ⟨by simp⟩, H2, ⟨rfl⟩, HS2, HB2, BR2, BP2⟩
  case round =>
    obtain ⟨done, rest, rest', rfl, hkq, HL, HM, HR, HSr, HBr, BRr, BPr⟩ := hrel
    clear HB2 BR2 BP2 HS2 HC H1 H2
    cases rest with
    | nil =>
      have hrs' : rest' = [] := by have := HM.out; simp only [mapO, Option.some.injEq] at this; exact this.symm
      subst hrs'
      have hge : ¬ (done.length : Int) < (cl.length : Int) := by have := HL.out; simp only [List.length_nil] at this; omega
      have hcp : wr.cell? ⟨w1.heap.size, 0, none⟩ = some (.slice Av cl.length cv0) := (blk_cell BPr.out 0).trans rfl
      have hcr : wr.cell? ⟨w.heap.size + 1, 0, none⟩ = some (.slice none 0 0) := (blk_cell BRr.out 0).trans rfl
      have hfr := blk_frozen BRr.out 0
      go_wp2_with fail
      refine bodyPost_ret (results_cell_row rfl _ _ (w.heap.size + 1) 35 #[.slice Av cl.length cv0] (0, 0) _ rfl (blk_set BRr.out 0 _) Try.underlying35 rfl (by kernel_rfl)) rfl ?_
      refine ⟨_, rfl, ?_, below_set HBr.out (by omega)⟩
      have h := HSr.out
      rw [List.append_nil] at h
      have e := HR.out
      rw [List.append_nil] at e
      rw [e]
      exact Kd.S_mono (Kd.S_far (p := ⟨w.heap.size + 1, 0, none⟩) h (fun k hk => by show k ≠ w.heap.size + 1; omega) _) (fun _ _ => trivial)
    | cons row rest1 =>
      have HMM := HM.out
      clear HM
      simp only [mapO] at HMM
      obtain ⟨row', hm1, HMM⟩ := Option.bind_eq_some_iff.mp HMM
      obtain ⟨rest1', hm2, HMM⟩ := Option.bind_eq_some_iff.mp HMM
      simp only [Option.some.injEq] at HMM
      subst HMM
      have M1 := am_ hm1
      have M2 := am_ hm2
      clear hm1 hm2
      have hlt : (done.length : Int) < (cl.length : Int) := by have := HL.out; simp only [List.length_cons] at this; omega
      obtain ⟨g, cap, eA, hg0, hgl, cells, hcells⟩ := Kd.S_form HSr.out z82_3
      have hS := HSr.out
      have eL : (done ++ row :: rest1).length = cl.length := by have := HL.out; simpa using this
      rw [eL] at eA
      rw [eA] at hS
      obtain ⟨oki, cs, hlen, hM, hcc, hoki, hH⟩ := Kd.S_lend hS [] (done.length : Int) (by omega) (by omega)
      rw [show (done ++ row :: rest1).getD (done.length : Int).toNat [] = row by simp] at hM
      obtain ⟨u, rfl, hRu⟩ := hM
      obtain ⟨Au, cu, rfl⟩ := Kd.R_slice hRu
      have hcu : wr.cell? ⟨g, done.length, none⟩ = some (.slice Au row.length cu) := by have h1 := hcc 0 _ rfl; rwa [show (done.length : Int).toNat * (Kd.slice 85 k85).sz + 0 = done.length from by show (done.length : Int).toNat * 1 + 0 = _; omega] at h1
      have hfu := blk_frozen hcells done.length
      have HRu := am_ hRu
      have HHr := am_ hH
      have HOK := am_ hoki
      clear hcells hRu hH hoki hS hcc
      go_wp2_with fail
      clear hcu hfu
      have hrl : row.length ≤ 9223372036854775807 := (Kd.R_reads' HRu.out).2.2.2.1
      go_loopg [21] row.length (fun jq v21 W => ∃ (dn rs rs' : List S85), v21 = .int .i64 dn.length ∧ rs.length = jq ∧ Aside0 (dn.length + rs.length = row.length) ∧ Aside0 (mapO F rs = some rs') ∧ Aside0 (row' = dn ++ rs') ∧
        Aside0 (Kd.R k85 85 W w.heap.size oki (.slice Au row.length cu) (dn ++ rs)) ∧ Aside0 (Kd.H (Kd.slice 85 k85) 82 W w.heap.size (fun k => w.heap.size + 2 ≤ k ∧ k < w1.heap.size) (.slice (some ⟨g, 0, none⟩) cl.length cv0) (done ++ row :: rest1) done.length oki [.slice Au row.length cu]) ∧
        Aside0 (Below w.heap.size w W) ∧ Aside0 (W.heap[w.heap.size + 1]? = some (Obj.cells #[Value.slice none 0 0] 35)) ∧ Aside0 (W.heap[w1.heap.size]? = some (Obj.cells #[Value.slice (some ⟨g, 0, none⟩) cl.length cv0] 35)))
      case atStart => exact ⟨[], row, row', rfl, rfl, ⟨by simp⟩, M1, ⟨rfl⟩, HRu, HHr, HBr, BRr, BPr⟩
      case round =>
        obtain ⟨dn, rs, rs', rfl, hjq, HLi, HMi, HRi, HRw, HHw, HBw, BRw, BPw⟩ := hrel
        clear HRu HHr HBr BRr BPr M1 HSr
        cases rs with
        | nil =>
          have hrs' : rs' = [] := by have := HMi.out; simp only [mapO, Option.some.injEq] at this; exact this.symm
          subst hrs'
          have hge : ¬ (dn.length : Int) < (row.length : Int) := by have := HLi.out; simp only [List.length_nil] at this; omega
          have HSn := am_ (show Kd.S (Kd.slice 85 k85) 82 wr w.heap.size (fun k => w.heap.size + 2 ≤ k ∧ k < w1.heap.size) (.slice (some ⟨g, 0, none⟩) cl.length cv0) (done ++ [row'] ++ rest1) from by
            have h := Kd.H_back HHw.out (Kd.M_row HRw.out) (fun k hk => hk)
            rw [show (done ++ row :: rest1).set (done.length : Int).toNat (dn ++ []) = done ++ [row'] ++ rest1 from by rw [Int.toNat_natCast, List.set_append_right _ _ (Nat.le_refl _), HRi.out]; simp] at h
            exact h)
          clear HRw HHw
          go_wp2_with fail
          go_roundg rest1.length
          case measure => simp only [List.length_cons] at hkq; omega
          case rel => exact ⟨done ++ [row'], rest1, rest1', by simp, rfl, ⟨by have := HL.out; simp only [List.length_cons] at this; simp only [List.length_append, List.length_singleton]; omega⟩, M2, ⟨by rw [HR.out]; simp⟩, HSn, HBw, BRw, BPw⟩
        | cons d rs1 =>
          have HMM := HMi.out
          clear HMi
          simp only [mapO] at HMM
          obtain ⟨d', hm1, HMM⟩ := Option.bind_eq_some_iff.mp HMM
          obtain ⟨rs1', hm3, HMM⟩ := Option.bind_eq_some_iff.mp HMM
          simp only [Option.some.injEq] at HMM
          subst HMM
          have N1 := am_ hm1
          have N2 := am_ hm3
          clear hm1 hm3
          have hlti : (dn.length : Int) < (row.length : Int) := by have := HLi.out; simp only [List.length_cons] at this; omega
          obtain ⟨gi, capi, eAi, hgi0, hgil, cellsi, hcellsi⟩ := Kd.R_form HRw.out z82_3
          have hR := HRw.out
          have eLi : (dn ++ d :: rs1).length = row.length := by have := HLi.out; simpa using this
          rw [eLi] at eAi
          rw [eAi] at hR
          obtain ⟨ce, hce, hMe, hcce, hfre⟩ := Kd.R_elem hR z85 (dn.length : Int) (by omega) (by omega)
          rw [show (dn ++ d :: rs1).getD (dn.length : Int).toNat z85 = d by simp] at hMe
          obtain rfl := k85_openM hMe
          have hx0 := hcce 0 _ rfl
          have hx1 := hcce 1 _ rfl
          have hx2 := hcce 2 _ rfl
          rw [show (dn.length : Int).toNat * (k85).sz + 0 = dn.length * 3 from by show (dn.length : Int).toNat * 3 + 0 = _; omega] at hx0
          rw [show (dn.length : Int).toNat * (k85).sz + 1 = dn.length * 3 + 1 from by show (dn.length : Int).toNat * 3 + 1 = _; omega] at hx1
          rw [show (dn.length : Int).toNat * (k85).sz + 2 = dn.length * 3 + 2 from by show (dn.length : Int).toNat * 3 + 2 = _; omega] at hx2
          have HRo := am_ hR
          clear hMe hR hcce hfre
          go_wp2_with (go_at_call 102; refine park ?_)
          clear hx0 hx1 hx2
          refine ⟨?_⟩
          refine (HF.out _ d d' (below_alloc HBw.out _) N1.out).mono ?_
          rintro e w2 ⟨rfl, hb⟩
          have HB3 := am_ (below_then (below_alloc HBw.out (Obj.cells #[Value.int IntKind.i64 d.f0, Value.int IntKind.i64 d.f1, Value.int IntKind.i64 d.f2] 85)) (below_alloc HBw.out (Obj.cells #[Value.int IntKind.i64 d.f0, Value.int IntKind.i64 d.f1, Value.int IntKind.i64 d.f2] 85)).size hb)
          have hR3 := Kd.R_below (Kd.R_alloc HRo.out (Obj.cells #[Value.int IntKind.i64 d.f0, Value.int IntKind.i64 d.f1, Value.int IntKind.i64 d.f2] 85)) hb
          have HH3 := am_ (Kd.H_below (Kd.H_alloc HHw.out (Obj.cells #[Value.int IntKind.i64 d.f0, Value.int IntKind.i64 d.f1, Value.int IntKind.i64 d.f2] 85)) hb)
          have BR3 := am_ (blk_below (blk_alloc BRw.out (Obj.cells #[Value.int IntKind.i64 d.f0, Value.int IntKind.i64 d.f1, Value.int IntKind.i64 d.f2] 85)) hb)
          have BP3 := am_ (blk_below (blk_alloc BPw.out (Obj.cells #[Value.int IntKind.i64 d.f0, Value.int IntKind.i64 d.f1, Value.int IntKind.i64 d.f2] 85)) hb)
          have HRn := am_ (HRw.out.1 gi rfl)
          clear HBw HHw BRw BPw HRo HRw hb
          obtain ⟨ce, hce, hMe, hcce, hfre⟩ := Kd.R_elem hR3 z85 (dn.length : Int) (by omega) (by omega)
          rw [show (dn ++ d :: rs1).getD (dn.length : Int).toNat z85 = d by simp] at hMe
          obtain rfl := k85_openM hMe
          have HP := am_ (Kd.R_seg hR3 (dn.length : Int) (by omega) (by omega) (seg := [.int .i64 d'.f0, .int .i64 d'.f1, .int .i64 d'.f2]) (j := 0) hce hcce (show 3 ≤ 3 from by decide) (x' := d') (k85_mkM _ _ _ d') (fun _ hk => hk))
          have hx0 := hcce 0 _ rfl
          have hx1 := hcce 1 _ rfl
          have hx2 := hcce 2 _ rfl
          have hf0 := hfre 0
          have hf1 := hfre 1
          have hf2 := hfre 2
          have e0 : (dn.length : Int).toNat * (k85).sz + 0 = dn.length * 3 := by show (dn.length : Int).toNat * 3 + 0 = _; omega
          have e1 : (dn.length : Int).toNat * (k85).sz + 1 = dn.length * 3 + 1 := by show (dn.length : Int).toNat * 3 + 1 = _; omega
          have e2 : (dn.length : Int).toNat * (k85).sz + 2 = dn.length * 3 + 2 := by show (dn.length : Int).toNat * 3 + 2 = _; omega
          rw [e0] at hx0 hf0
          rw [e1] at hx1 hf1
          rw [e2] at hx2 hf2
          clear e0 e1 e2 hMe hcce hfre hR3
          have HP' := am_ (show Kd.R k85 85 (((w2.setCell ⟨gi, dn.length * 3, none⟩ (.int .i64 d'.f0)).setCell ⟨gi, dn.length * 3 + 1, none⟩ (.int .i64 d'.f1)).setCell ⟨gi, dn.length * 3 + 2, none⟩ (.int .i64 d'.f2)) w.heap.size oki (.slice (some ⟨gi, 0, none⟩) row.length cu) (dn ++ [d'] ++ rs1) ∧ w2.grownBy (((w2.setCell ⟨gi, dn.length * 3, none⟩ (.int .i64 d'.f0)).setCell ⟨gi, dn.length * 3 + 1, none⟩ (.int .i64 d'.f1)).setCell ⟨gi, dn.length * 3 + 2, none⟩ (.int .i64 d'.f2)) (some gi) from by
            have h := HP.out
            rw [show (dn.length : Int).toNat * (k85).sz + 0 = dn.length * 3 from by show (dn.length : Int).toNat * 3 + 0 = _; omega, show (dn ++ d :: rs1).set (dn.length : Int).toNat d' = dn ++ [d'] ++ rs1 from by rw [Int.toNat_natCast, List.set_append_right _ _ (Nat.le_refl _)]; simp] at h
            exact h)
          clear HP
          go_wp2_with fail
          clear hx0 hx1 hx2 hf0 hf1 hf2
          go_roundg rs1.length
          case measure => simp only [List.length_cons] at hjq; omega
          case rel =>
            have hOKn := (HOK.out _ HRn.out).1
            exact ⟨dn ++ [d'], rs1, rs1', by simp, rfl, ⟨by have := HLi.out; simp only [List.length_cons] at this; simp only [List.length_append, List.length_singleton]; omega⟩, N2, ⟨by rw [HRi.out]; simp⟩, ⟨HP'.out.1⟩, ⟨Kd.H_grown HH3.out HP'.out.2 (fun k hk => z82_2)⟩,
              ⟨HB3.out.grown HP'.out.2 HB3.out.size (fun k hk => by injection hk with hk; omega)⟩, ⟨blk_grown BR3.out HP'.out.2 (fun e => z82_1)⟩, ⟨blk_grown BP3.out HP'.out.2 (fun e => z82_1)⟩⟩


end Go.Proofs.Ytefkbmhkhpekjaa.PB

namespace Go.Proofs.Ytefkbmhkhpekjaa.PB
open Go.RowKit Go.Proofs.YtefkbmhkhpekjaaW.PrintWords Go.Proofs.YtefkbmhkhpekjaaW.PrintLast Go.Proofs.YtefkbmhkhpekjaaW.PrintMore
attribute [local go_sem] max2_int min2_int max_two min_two max_three min_three max_four min_four   -- for this text's walks alone
open Go.Proofs.YtefkbmhkhpekjaaMine
set_option linter.unusedVariables false
set_option linter.unusedSimpArgs false

/-! ### impl_TurnPlaces: function 48 -/
def placesF (row : List Int) (d : S85) : Option S85 := (impl_Do_uses.f d.f0 d.f1 d.f2).bind fun u => if u = true then (if 0 ≤ d.f1 ∧ d.f1 < (row.length : Int) then some ⟨d.f0, rd row d.f1, d.f2⟩ else none) else some d
set_option maxRecDepth 100000 in
set_option maxHeartbeats 4000000 in
theorem impl_TurnPlaces.closure (w : World) (d r : S85) (row : List Int) (A : Option Addr) (c : Nat) (gr : Nat) (hm : w.heap[gr]? = some (.cells #[.slice A row.length c] 22 (0, 0))) (hC : Kd.C (Kd.int .i64) w A row.length row) (h : placesF row d = some r) :
    Calls Try.prog 99 #[.agg #[.int .i64 d.f0, .int .i64 d.f1, .int .i64 d.f2], .pointer (some ⟨gr, 0, none⟩)] w fun e w' => e = .returned (.agg #[.int .i64 r.f0, .int .i64 r.f1, .int .i64 r.f2]) ∧ Below w.heap.size w w' := by
  unfold placesF at h
  obtain ⟨u, hu, h⟩ := Option.bind_eq_some_iff.mp h
  have HU := am_ hu
  have HH := am_ h
  have HM := am_ hm
  have HC := am_ hC
  have hgr : gr < w.heap.size := blk_lt hm
  clear hu h hm hC
  go_enter Try.func99, Try.ntmps99
  go_wp2_with (go_at_call 78; refine park ?_)
  refine ⟨?_⟩
  refine (impl_Do_uses.calls d.f0 d.f1 d.f2 u _ HU.out).mono ?_
  rintro e W1 ⟨rfl, hb⟩
  have BX := am_ (blk_below (blk_alloc (heap_alloc_new w (Obj.cells #[.int .i64 d.f0, .int .i64 d.f1, .int .i64 d.f2] 85)) (Obj.cells #[.int .i64 0, .int .i64 0, .int .i64 0] 85)) hb)
  have BR := am_ (blk_below (heap_alloc_new (w.alloc (Obj.cells #[.int .i64 d.f0, .int .i64 d.f1, .int .i64 d.f2] 85)) (Obj.cells #[.int .i64 0, .int .i64 0, .int .i64 0] 85)) hb)
  have BM := am_ (blk_below (blk_alloc (blk_alloc HM.out (Obj.cells #[.int .i64 d.f0, .int .i64 d.f1, .int .i64 d.f2] 85)) (Obj.cells #[.int .i64 0, .int .i64 0, .int .i64 0] 85)) hb)
  have HC1 := am_ (Kd.C_below (Kd.C_alloc (Kd.C_alloc HC.out (Obj.cells #[.int .i64 d.f0, .int .i64 d.f1, .int .i64 d.f2] 85)) (Obj.cells #[.int .i64 0, .int .i64 0, .int .i64 0] 85)) hb)
  have HB1 := am_ (below_then (below_alloc (below_alloc (Below.refl w.heap.size w) (Obj.cells #[.int .i64 d.f0, .int .i64 d.f1, .int .i64 d.f2] 85)) (Obj.cells #[.int .i64 0, .int .i64 0, .int .i64 0] 85)) (below_alloc (below_alloc (Below.refl w.heap.size w) (Obj.cells #[.int .i64 d.f0, .int .i64 d.f1, .int .i64 d.f2] 85)) (Obj.cells #[.int .i64 0, .int .i64 0, .int .i64 0] 85)).size hb)
  rw [World.size_alloc] at BR
  clear hb HM HC HU
  have hx0 : W1.cell? ⟨w.heap.size, 0, none⟩ = some (.int .i64 d.f0) := (blk_cell BX.out 0).trans rfl
  have hx1 : W1.cell? ⟨w.heap.size, 1, none⟩ = some (.int .i64 d.f1) := (blk_cell BX.out 1).trans rfl
  have hx2 : W1.cell? ⟨w.heap.size, 2, none⟩ = some (.int .i64 d.f2) := (blk_cell BX.out 2).trans rfl
  have hf1 := blk_frozen BX.out 1
  have hz0 : W1.cell? ⟨w.heap.size + 1, 0, none⟩ = some (.int .i64 0) := (blk_cell BR.out 0).trans rfl
  have hz1 : W1.cell? ⟨w.heap.size + 1, 1, none⟩ = some (.int .i64 0) := (blk_cell BR.out 1).trans rfl
  have hz2 : W1.cell? ⟨w.heap.size + 1, 2, none⟩ = some (.int .i64 0) := (blk_cell BR.out 2).trans rfl
  have hr0 := blk_frozen BR.out 0
  have hr1 := blk_frozen BR.out 1
  have hr2 := blk_frozen BR.out 2
  cases u
  · obtain rfl : d = r := Option.some.inj HH.out
    go_wp2_with fail
    refine bodyPost_ret (results_cell_row rfl _ _ (w.heap.size + 1) 85 #[.int .i64 d.f0, .int .i64 d.f1, .int .i64 d.f2] (0, 0) _ rfl (blk_set (blk_set (blk_set BR.out 0 _) 1 _) 2 _) Try.underlying85 rfl (by kernel_rfl)) rfl ?_
    exact ⟨rfl, below_set (below_set (below_set HB1.out (by omega)) (by omega)) (by omega)⟩
  · have h := HH.out
    rw [if_pos rfl] at h
    split at h
    rotate_left
    · cases h
    rename_i hin
    obtain ⟨h0, h1⟩ := hin
    obtain rfl := Option.some.inj h
    obtain ⟨ad, rfl, hx⟩ := Kd.at_int HC1.out d.f1 h0 h1
    have hcr : W1.cell? ⟨gr, 0, none⟩ = some (.slice (some ad) row.length c) := (blk_cell BM.out 0).trans rfl
    have b0 := decide_eq_true h0
    have b1 := decide_eq_true h1
    go_wp2_with fail
    refine bodyPost_ret (results_cell_row rfl _ _ (w.heap.size + 1) 85 #[.int .i64 d.f0, .int .i64 (rd row d.f1), .int .i64 d.f2] (0, 0) _ rfl (blk_set (blk_set (blk_set (blk_far BR.out (p := ⟨w.heap.size, 1, none⟩) (by show w.heap.size + 1 ≠ w.heap.size; omega) _) 0 _) 1 _) 2 _) Try.underlying85 rfl (by kernel_rfl)) rfl ?_
    exact ⟨rfl, below_set (below_set (below_set (below_set HB1.out (Nat.le_refl _)) (by omega)) (by omega)) (by omega)⟩
def impl_TurnPlaces.body (k : Nat) (l0_0 : List (List S85)) (l1 : List Int) : Option (List (List S85) × Bool) := ((impl_Prog_copied.f k l0_0).bind fun c => (mapO (mapO (placesF l1)) c).bind fun r => some (r, true))
def impl_TurnPlaces.f (k : Nat) (l0_0 : List (List S85)) (l1 : List Int) : Option (List (List S85) × Bool) := (impl_ProgOk.f k l0_0).bind fun b => if b = true then ((impl_isRow.f k l1 3).bind fun q => if q = true then impl_TurnPlaces.body k l0_0 l1 else some ([], false)) else some ([], false)
theorem impl_TurnPlaces.mono_body (k : Nat) (l0_0 : List (List S85)) (l1 : List Int) : LeO (impl_TurnPlaces.body k l0_0 l1) (impl_TurnPlaces.body (k + 1) l0_0 l1) := LeO.bind (impl_Prog_copied.mono _ _) (fun _ => LeO.refl _)
theorem impl_TurnPlaces.mono : ∀ l0_0 l1 k, LeO (impl_TurnPlaces.f k l0_0 l1) (impl_TurnPlaces.f (k + 1) l0_0 l1) := by
  intro l0_0 l1 k
  unfold impl_TurnPlaces.f
  exact LeO.bind (impl_ProgOk.mono _ _) (fun b => LeO.ite (LeO.bind (impl_isRow.mono _ _ _) (fun q => LeO.ite (impl_TurnPlaces.mono_body _ _ _) (LeO.refl _))) (LeO.refl _))
set_option maxRecDepth 100000 in
set_option maxHeartbeats 8000000 in
theorem impl_TurnPlaces.calls (k : Nat) (A0_0 : Option Addr) (c0_0 : Nat) (l0_0 : List (List S85)) (A1 : Option Addr) (c1 : Nat) (l1 : List Int) (r1 : List (List S85)) (r2 : Bool) (w : World) (hr0_0 : Kd.C (Kd.slice 85 k85) w A0_0 l0_0.length l0_0) (hc0_0 : l0_0.length ≤ c0_0) (hr1 : Kd.C (Kd.int .i64) w A1 l1.length l1) (hc1 : l1.length ≤ c1) (h : impl_TurnPlaces.f k l0_0 l1 = some (r1, r2)) :
  Calls Try.prog 48 #[.agg #[.slice A0_0 l0_0.length c0_0], .slice A1 l1.length c1] w fun e w' => ∃ v0_ : Value, e = .returned (.tuple #[.agg #[v0_], .bool r2]) ∧ Kd.S (Kd.slice 85 k85) 82 w' w.heap.size (fun _ => True) v0_ r1 ∧ Below w.heap.size w w' := by
 have HC := am_ hr0_0
 have HC1 := am_ hr1
 obtain ⟨b, e1, h⟩ := Option.bind_eq_some_iff.mp h
 have E1 := am_ e1
 have H := am_ h
 clear hr0_0 hr1 e1 h
 have hmf : ∀ (fn : Fn) (first cap : Array Value) (w : World), (Instr.makeFunc fn first cap).run Try.prog w = .ok (.func fn first cap) w := fun _ _ _ _ => rfl
 go_enter Try.func48, Try.ntmps48
 go_wp2_with (go_at_call 31; refine park ?_)
 refine ⟨?_⟩
 refine (impl_ProgOk.calls k A0_0 c0_0 l0_0 b _ (Kd.C_alloc (Kd.C_alloc (Kd.C_alloc HC.out _) _) _) hc0_0 E1.out).mono ?_
 rintro e w1 ⟨rfl, hb⟩
 have B3 := below_alloc (below_alloc (below_alloc (Below.refl w.heap.size w) (Obj.cells #[Value.slice A0_0 l0_0.length c0_0] 35)) (Obj.cells #[Value.slice A1 l1.length c1] 22)) (Obj.cells #[Value.slice none 0 0] 35)
 have SZ : (((w.alloc (Obj.cells #[Value.slice A0_0 l0_0.length c0_0] 35)).alloc (Obj.cells #[Value.slice A1 l1.length c1] 22)).alloc (Obj.cells #[Value.slice none 0 0] 35)).heap.size = w.heap.size + 3 := by rw [World.size_alloc, World.size_alloc, World.size_alloc]
 have hbr := blk_below (heap_alloc_new ((w.alloc (Obj.cells #[Value.slice A0_0 l0_0.length c0_0] 35)).alloc (Obj.cells #[Value.slice A1 l1.length c1] 22)) (Obj.cells #[Value.slice none 0 0] 35)) hb
 rw [World.size_alloc, World.size_alloc] at hbr
 have hbw := blk_below (blk_alloc (heap_alloc_new (w.alloc (Obj.cells #[Value.slice A0_0 l0_0.length c0_0] 35)) (Obj.cells #[Value.slice A1 l1.length c1] 22)) (Obj.cells #[Value.slice none 0 0] 35)) hb
 rw [World.size_alloc] at hbw
 have BR := am_ hbr
 have BW := am_ hbw
 have BP := am_ (blk_below (blk_alloc (blk_alloc (heap_alloc_new w (Obj.cells #[Value.slice A0_0 l0_0.length c0_0] 35)) (Obj.cells #[Value.slice A1 l1.length c1] 22)) (Obj.cells #[Value.slice none 0 0] 35)) hb)
 have HB := am_ (below_then B3 B3.size hb)
 have HC2 := am_ (Kd.C_below (Kd.C_alloc (Kd.C_alloc (Kd.C_alloc HC.out (Obj.cells #[Value.slice A0_0 l0_0.length c0_0] 35)) (Obj.cells #[Value.slice A1 l1.length c1] 22)) (Obj.cells #[Value.slice none 0 0] 35)) hb)
 have HR2 := am_ (Kd.C_below (Kd.C_alloc (Kd.C_alloc (Kd.C_alloc HC1.out (Obj.cells #[Value.slice A0_0 l0_0.length c0_0] 35)) (Obj.cells #[Value.slice A1 l1.length c1] 22)) (Obj.cells #[Value.slice none 0 0] 35)) hb)
 have LT := am_ (show w.heap.size + 3 ≤ w1.heap.size by have := hb.size; omega)
 clear hb hbr hbw SZ HC HC1 E1 B3
 cases b with
 | false =>
  have hcr : w1.cell? ⟨w.heap.size + 1 + 1, 0, none⟩ = some (.slice none 0 0) := (blk_cell BR.out 0).trans rfl
  have hfr := blk_frozen BR.out 0
  have e2 := Option.some.inj H.out
  simp only [Prod.mk.injEq] at e2
  obtain ⟨rfl, rfl⟩ := e2
  go_wp2_with fail
  refine bodyPost_ret (results_ct rfl _ _ (w.heap.size + 1 + 1) 35 #[.slice none 0 0] (0, 0) _ rfl (blk_set BR.out 0 _) Try.underlying35 rfl (by kernel_rfl)) rfl ?_
  exact ⟨_, rfl, Kd.S_nil _ _ _ _ _, below_set HB.out (by omega)⟩
 | true =>
  obtain ⟨q, e2, H2⟩ := Option.bind_eq_some_iff.mp H.out
  have E2 := am_ e2
  have HQ := am_ H2
  have hcw : w1.cell? ⟨w.heap.size + 1, 0, none⟩ = some (.slice A1 l1.length c1) := (blk_cell BW.out 0).trans rfl
  clear e2 H2 H
  go_wp2_with (go_at_call 97; refine park ?_)
  clear hcw
  refine ⟨?_⟩
  refine (impl_isRow.calls k A1 c1 l1 3 q _ HR2.out hc1 E2.out).mono ?_
  rintro e w2 ⟨rfl, hd⟩
  have hb : Below w1.heap.size w1 w2 := hd.below
  clear hd
  have BR2 := am_ (blk_below BR.out hb)
  have BW2 := am_ (blk_below BW.out hb)
  have BP2 := am_ (blk_below BP.out hb)
  have HC3 := am_ (Kd.C_below HC2.out hb)
  have HR3 := am_ (Kd.C_below HR2.out hb)
  have HB2 := am_ (below_then HB.out HB.out.size hb)
  have LT2 := am_ (show w.heap.size + 3 ≤ w2.heap.size by have := hb.size; have := LT.out; omega)
  clear hb BR BW BP HC2 HR2 HB LT E2
  have hcr : w2.cell? ⟨w.heap.size + 1 + 1, 0, none⟩ = some (.slice none 0 0) := (blk_cell BR2.out 0).trans rfl
  have hfr := blk_frozen BR2.out 0
  cases q with
  | false =>
   have e2 := Option.some.inj HQ.out
   simp only [Prod.mk.injEq] at e2
   obtain ⟨rfl, rfl⟩ := e2
   go_wp2_with fail
   refine bodyPost_ret (results_ct rfl _ _ (w.heap.size + 1 + 1) 35 #[.slice none 0 0] (0, 0) _ rfl (blk_set BR2.out 0 _) Try.underlying35 rfl (by kernel_rfl)) rfl ?_
   exact ⟨_, rfl, Kd.S_nil _ _ _ _ _, below_set HB2.out (by omega)⟩
  | true =>
   have HK := HQ.out
   rw [if_pos rfl] at HK
   clear hcr hfr
   have hcp : w2.cell? ⟨w.heap.size, 0, none⟩ = some (.slice A0_0 l0_0.length c0_0) := (blk_cell BP2.out 0).trans rfl
   go_wp2_with (go_at_call 82; refine park ?_)
   refine ⟨?_⟩
   clear hcp
   unfold impl_TurnPlaces.body at HK
   obtain ⟨cl, e3, HK⟩ := Option.bind_eq_some_iff.mp HK
   obtain ⟨rr, e4, HK⟩ := Option.bind_eq_some_iff.mp HK
   simp only [Option.some.injEq, Prod.mk.injEq] at HK
   obtain ⟨rfl, rfl⟩ := HK
   refine (each99 k (placesF l1) (.pointer (some ⟨w.heap.size + 1, 0, none⟩)) A0_0 c0_0 l0_0 cl rr _ HC3.out hc0_0
    (fun W d d' hW hd => impl_TurnPlaces.closure W d d' l1 A1 c1 (w.heap.size + 1) (blk_below BW2.out hW) (Kd.C_below HR3.out hW) hd) e3 e4).mono ?_
   rintro e w5 ⟨v5, rfl, hS, hb⟩
   obtain ⟨Av, cv, rfl⟩ := Kd.S_slice hS
   have BR6 := am_ (blk_below BR2.out hb)
   have HB6 := am_ (below_then HB2.out HB2.out.size hb)
   have HS6 := am_ (Kd.S_lower (Kd.S_mono (ok' := fun k => w.heap.size + 3 ≤ k) (Kd.S_bound hS) (fun k hk => by have := hk.2.1; have := LT2.out; omega)) (show w.heap.size ≤ _ from HB2.out.size))
   clear hS hb e3 e4
   have hcr : w5.cell? ⟨w.heap.size + 1 + 1, 0, none⟩ = some (.slice none 0 0) := (blk_cell BR6.out 0).trans rfl
   have hfr := blk_frozen BR6.out 0
   go_wp2_with fail
   refine bodyPost_ret (results_ct rfl _ _ (w.heap.size + 1 + 1) 35 #[.slice Av rr.length cv] (0, 0) _ rfl (blk_set BR6.out 0 _) Try.underlying35 rfl (by kernel_rfl)) rfl ?_
   exact ⟨_, rfl, Kd.S_mono (Kd.S_far (p := ⟨w.heap.size + 1 + 1, 0, none⟩) HS6.out (fun k hk => by show k ≠ w.heap.size + 1 + 1; omega) _) (fun _ _ => trivial), below_set HB6.out (by omega)⟩


end Go.Proofs.Ytefkbmhkhpekjaa.PB

namespace Go.Proofs.Ytefkbmhkhpekjaa.PB
open Go.RowKit Go.Proofs.YtefkbmhkhpekjaaW.PrintWords Go.Proofs.YtefkbmhkhpekjaaW.PrintLast Go.Proofs.YtefkbmhkhpekjaaW.PrintMore
attribute [local go_sem] max2_int min2_int max_two min_two max_three min_three max_four min_four   -- for this text's walks alone
open Go.Proofs.YtefkbmhkhpekjaaMine
set_option linter.unusedVariables false
set_option linter.unusedSimpArgs false

theorem z100_1 {p : Prop} (h : p := by first | rfl | (simp; done) | (simp [*]; done)) : p := h
theorem z100_2 {p : Prop} (h : p := by repeat (first | exact Drawn0.refl _ | apply Drawn0.step)) : p := h
/-! ### spec_l22Row: function 100 -/
def spec_l22Row.l0 : Nat → List Int → Int → Int → Option (Bool)
  | 0, _, _, _ => none
  | k + 1, x0, x1, x5 => if x5 < x1 then ((spec_l12Has.f k x0 x5).bind fun t1020 => (if t1020 = true then (spec_l22Row.l0 k x0 x1 (wrap64 (x5 + 1))) else (some false))) else (some true)
def spec_l22Row.f (k : Nat) (l0 : List Int) (a1 : Int) : Option (Bool) := if (l0.length : Int) = a1 then (spec_l22Row.l0 k l0 a1 0) else (some false)
theorem spec_l22Row.mono_l : ∀ k, (∀ y0 y1 y2, LeO (spec_l22Row.l0 k y0 y1 y2) (spec_l22Row.l0 (k + 1) y0 y1 y2))
  | 0 => fun _ _ _ r h => by simp [spec_l22Row.l0] at h
  | k + 1 => by
    have ih0 := spec_l22Row.mono_l k
    · intro y0 y1 y2
      unfold spec_l22Row.l0
      repeat' first
      | (with_reducible exact ih0 _ _ _)
      | (with_reducible exact spec_l12Has.mono _ _ _)
      | (with_reducible exact LeO.refl _)
      | (with_reducible exact LeO.none _)
      | (with_reducible refine LeO.ite ?_ ?_)
      | (with_reducible refine LeO.bind ?_ (fun _ => ?_))
      | exact ih0 _ _ _
      | exact spec_l12Has.mono _ _ _
      | exact LeO.none _
      | refine LeO.ite ?_ ?_
      | refine LeO.bind ?_ (fun _ => ?_)
theorem spec_l22Row.mono : ∀ a0 a1 k, LeO (spec_l22Row.f k a0 a1) (spec_l22Row.f (k + 1) a0 a1) := by
  intro a0 a1 k
  have ih0 := spec_l22Row.mono_l k
  unfold spec_l22Row.f
  repeat' first
      | (with_reducible exact ih0 _ _ _)
      | (with_reducible exact spec_l12Has.mono _ _ _)
      | (with_reducible exact LeO.refl _)
      | (with_reducible exact LeO.none _)
      | (with_reducible refine LeO.ite ?_ ?_)
      | (with_reducible refine LeO.bind ?_ (fun _ => ?_))
      | exact ih0 _ _ _
      | exact spec_l12Has.mono _ _ _
      | exact LeO.none _
      | refine LeO.ite ?_ ?_
      | refine LeO.bind ?_ (fun _ => ?_)
set_option maxHeartbeats 8000000 in
set_option maxRecDepth 100000 in
theorem spec_l22Row.calls (k : Nat) (A0 : Option Addr) (c0 : Nat) (l0 : List Int) (a1 : Int) (r : Bool) (w : World) (hr0 : Kd.C (Kd.int .i64) w A0 l0.length l0) (hc0 : l0.length ≤ c0) (h : spec_l22Row.f k l0 a1 = some r) :
  Calls Try.prog 100 #[.slice A0 l0.length c0, .int .i64 a1] w fun e w' => e = .returned (.bool r) ∧ Drawn0 w w' := by
 have HR0 := am_ hr0
 have HC0 := am_ hc0
 clear hr0 hc0
 have H : (if (l0.length : Int) = a1 then (spec_l22Row.l0 k l0 a1 0) else (some false)) = some r := h
 clear h
 by_cases c3 : (l0.length : Int) = a1
 ·rw [if_pos c3] at H
  have c3b0 : ((l0.length : Int) == a1) = true := beq_iff_eq.mpr c3
  have c3b1 : ((l0.length : Int) != a1) = false := bne_eq_false_iff_eq.mpr c3
  clear c3
  have H' := am_ H
  clear H
  go_enter Try.func100, Try.ntmps100
  go_wp2
  go_loopg [5] k (fun kq v5 w' => ∃ (x5_1 : Int), v5 = .int .i64 x5_1 ∧ Aside0 (spec_l22Row.l0 kq l0 a1 x5_1 = some r) ∧ Aside0 (kq ≤ k) ∧ Drawn0 w w')
  case atStart => exact ⟨(0), z100_1, H', ⟨Nat.le_refl _⟩, z100_2⟩
  case round =>
   clear H'
   obtain ⟨x5_1, rfl, HA, HK1, ⟨m1, rfl⟩⟩ := hrel
   cases gk with
   | zero => exact absurd HA.out (by simp [spec_l22Row.l0])
   | succ k1 =>
    have H := HA.out
    clear HA
    simp only [spec_l22Row.l0] at H
    by_cases c4 : x5_1 < a1
    ·rw [if_pos c4] at H
     have c4b0 : decide (x5_1 < a1) = true := decide_eq_true c4
     clear c4
     replace H := Option.bind_eq_some_iff.mp H
     obtain ⟨t1020, A50, H⟩ := H
     replace H : (if t1020 = true then (spec_l22Row.l0 k1 l0 a1 (wrap64 (x5_1 + 1))) else (some false)) = some r := H
     have A5 := am_ A50
     clear A50
     by_cases c6 : t1020 = true
     ·subst c6
      have H1 : (spec_l22Row.l0 k1 l0 a1 (wrap64 (x5_1 + 1))) = some r := by rw [if_pos rfl] at H; exact H
      clear H
      have H := H1
      clear H1
      have H' := am_ H
      clear H
      go_wp2_with (first | ((with_reducible refine gate_callee (f := 101) rfl ?_); refine goesL_ (some 17) rfl rfl Try.func101 (by kernel_rfl) rfl #[.slice A0 l0.length c0, .int .i64 x5_1] rfl (by (try simp only [List.map_toArray, List.map_cons, List.map_nil]); first | done | rfl | (simp only [List.length_drop, List.length_take]; rfl)) ?_; (with_reducible refine (spec_l12Has.calls k1 _ _ l0 x5_1 true _ ?side1 ?side2 A5.out).mono ?_); (case side1 => repeat (first | exact HR0.out | (with_reducible refine Kd.C_alloc ?_ _) | (with_reducible refine Kd.C_drewN ?_ _) | (with_reducible refine Kd.C_drew ?_))); (case side2 => exact HC0.out); rintro e w' ⟨rfl, ⟨nd, rfl⟩⟩; refine ⟨_, rfl, ?_⟩))
      go_roundg k1
      case measure => have := HK1.out; omega
      case rel => exact ⟨(wrap64 (x5_1 + 1)), z100_1, H', ⟨by have := HK1.out; omega⟩, z100_2⟩
     ·replace c6 := Bool.eq_false_iff.mpr c6
      subst c6
      have H1 : (some false) = some r := by rw [if_neg (show ¬ (false = true) by decide)] at H; exact H
      clear H
      have H := H1
      clear H1
      obtain rfl := Option.some.inj H
      go_wp2_with (first | ((with_reducible refine gate_callee (f := 101) rfl ?_); refine goesL_ (some 17) rfl rfl Try.func101 (by kernel_rfl) rfl #[.slice A0 l0.length c0, .int .i64 x5_1] rfl (by (try simp only [List.map_toArray, List.map_cons, List.map_nil]); first | done | rfl | (simp only [List.length_drop, List.length_take]; rfl)) ?_; (with_reducible refine (spec_l12Has.calls k1 _ _ l0 x5_1 false _ ?side1 ?side2 A5.out).mono ?_); (case side1 => repeat (first | exact HR0.out | (with_reducible refine Kd.C_alloc ?_ _) | (with_reducible refine Kd.C_drewN ?_ _) | (with_reducible refine Kd.C_drew ?_))); (case side2 => exact HC0.out); rintro e w' ⟨rfl, ⟨nd, rfl⟩⟩; refine ⟨_, rfl, ?_⟩))
      go_ret
      exact ⟨z100_1, z100_2⟩
    ·rw [if_neg c4] at H
     have c4b0 : decide (x5_1 < a1) = false := decide_eq_false c4
     clear c4
     obtain rfl := Option.some.inj H
     go_wp2
     go_ret
     exact ⟨z100_1, z100_2⟩
 ·rw [if_neg c3] at H
  have c3b0 : ((l0.length : Int) == a1) = false := beq_eq_false_iff_ne.mpr c3
  have c3b1 : ((l0.length : Int) != a1) = true := bne_iff_ne.mpr c3
  obtain rfl := Option.some.inj H
  go_enter Try.func100, Try.ntmps100
  go_wp2
  go_ret
  exact ⟨z100_1, z100_2⟩

end Go.Proofs.Ytefkbmhkhpekjaa.PB

namespace Go.Proofs.Ytefkbmhkhpekjaa.PB
open Go.RowKit Go.Proofs.YtefkbmhkhpekjaaW.PrintWords Go.Proofs.YtefkbmhkhpekjaaW.PrintLast Go.Proofs.YtefkbmhkhpekjaaW.PrintMore
attribute [local go_sem] max2_int min2_int max_two min_two max_three min_three max_four min_four   -- for this text's walks alone
open Go.Proofs.YtefkbmhkhpekjaaMine
set_option linter.unusedVariables false
set_option linter.unusedSimpArgs false

theorem z49_1 {p : Prop} (h : p := by first | rfl | (simp; done) | (simp [*]; done)) : p := h
theorem z49_2 {p : Prop} (h : p := by first | (with_reducible assumption) | assumption) : p := h
theorem z49_3 {p : Prop} (h : p := by first | rfl | (simp [errW_none, errW_some] <;> rfl) | (simp [*, errW_none, errW_some] <;> rfl)) : p := h
theorem z49_4 {p : Prop} (h : p := by repeat (first | (with_reducible first | exact HB.out | apply below_alloc | apply pw_below_drewN | apply below_drew1) | exact HB.out)) : p := h
theorem z49_5 {p : Prop} (h : p := by first | exact Kd.S_nil _ _ _ _ _ | exact Kd.N_nil _ _ _ _ _ | exact Kd.V_nil _ _ _ _ _ | exact Kd.Q_nil _ _ _ _ _ | exact Kd.R_nil _ _ _ _ _) : p := h
theorem z49_6 {p : Prop} (h : p := by repeat (first | (with_reducible first | exact HB.out | apply below_alloc | apply pw_below_drewN | apply below_drew1 | refine below_set ?_ GE1021.out) | exact HB.out)) : p := h
theorem z49_7 {p : Prop} (h : p := by repeat (first | (with_reducible first | exact HB.out | apply below_alloc | apply pw_below_drewN | apply below_drew1 | refine below_set ?_ GE1021.out | refine below_set ?_ GE1022.out) | exact HB.out)) : p := h
theorem z49_8 {p : Prop} (h : p := by repeat (first | (with_reducible first | exact HB.out | apply below_alloc | apply pw_below_drewN | apply below_drew1 | refine below_set ?_ GE1021.out | refine below_set ?_ GE1022.out | refine below_set ?_ GE1025.out) | exact HB.out)) : p := h
theorem z49_9 {p : Prop} (h : p := by (with_reducible repeat (first | refine blk_drewN ?_ _ | refine blk_drew ?_ | refine blk_alloc ?_ _)); refine blk_far ?_ NB1021_1025.out _; (with_reducible repeat (first | refine blk_drewN ?_ _ | refine blk_drew ?_ | refine blk_alloc ?_ _)); exact BK1021.out) : p := h
theorem z49_10 {p : Prop} (h : p := by (with_reducible repeat (first | refine blk_drewN ?_ _ | refine blk_drew ?_ | refine blk_alloc ?_ _)); refine blk_far ?_ NB1022_1025.out _; (with_reducible repeat (first | refine blk_drewN ?_ _ | refine blk_drew ?_ | refine blk_alloc ?_ _)); exact BK1022.out) : p := h
theorem z49_11 {p : Prop} (h : p := by (with_reducible repeat (first | refine blk_drewN ?_ _ | refine blk_drew ?_ | refine blk_alloc ?_ _)); refine blk_put (cs := #[.slice none 0 0]) ?_ 0 _ rfl; (with_reducible repeat (first | refine blk_drewN ?_ _ | refine blk_drew ?_ | refine blk_alloc ?_ _)); exact BK1022.out) : p := h
/-! ### spec_TurnThreads: function 49 -/
mutual
def spec_TurnThreads.j0 : Nat → List Int → Bool → List (List (S85)) → Option ((List (List (S85))) × Bool)
  | 0, _, _, _ => none
  | k + 1, x1, x18, x1022000 => if x18 = true then (some (([] : List (List (S85))), false)) else (spec_TurnThreads.l0 k x1 0 x1022000 ([] : List (List (S85))))
def spec_TurnThreads.l0 : Nat → List Int → Int → List (List (S85)) → List (List (S85)) → Option ((List (List (S85))) × Bool)
  | 0, _, _, _, _ => none
  | k + 1, x1, x7, x1022000, x1026000 => if x7 < (x1.length : Int) then ((some (([] : List (S85)) : List (S85))).bind fun y1026 => (if 0 ≤ x7 then (if 0 ≤ (rd x1 x7) then (if (rd x1 x7) < (x1022000.length : Int) then (if y1026.length + (rd_L7 x1022000 (rd x1 x7)).length < 5864062014805 then (if x1026000.length < 5864062014805 then (spec_TurnThreads.l0 k x1 (wrap64 (x7 + 1)) x1022000 (x1026000 ++ [(y1026 ++ (rd_L7 x1022000 (rd x1 x7)))])) else (none)) else (none)) else (none)) else (none)) else (none))) else (some (x1026000, true))
end
def spec_TurnThreads.f (k : Nat) (l0_0 : List (List (S85))) (l1 : List Int) : Option ((List (List (S85))) × Bool) := (spec_ProgOk.f k l0_0).bind fun t1023 => (if t1023 = true then ((spec_l22Row.f k l1 (l0_0.length : Int)).bind fun t1024 => (spec_TurnThreads.j0 k l1 (!t1024) l0_0)) else (spec_TurnThreads.j0 k l1 true l0_0))
theorem spec_TurnThreads.mono_l : ∀ k, (∀ y0 y1 y2, LeO (spec_TurnThreads.j0 k y0 y1 y2) (spec_TurnThreads.j0 (k + 1) y0 y1 y2)) ∧ (∀ y0 y1 y2 y3, LeO (spec_TurnThreads.l0 k y0 y1 y2 y3) (spec_TurnThreads.l0 (k + 1) y0 y1 y2 y3))
  | 0 => ⟨fun _ _ _ r h => by simp [spec_TurnThreads.j0] at h, fun _ _ _ _ r h => by simp [spec_TurnThreads.l0] at h⟩
  | k + 1 => by
    obtain ⟨ih0, ih1⟩ := spec_TurnThreads.mono_l k
    refine ⟨?_, ?_⟩
    · intro y0 y1 y2
      unfold spec_TurnThreads.j0
      repeat' first
      | (with_reducible exact ih0 _ _ _)
      | (with_reducible exact ih1 _ _ _ _)
      | (with_reducible exact spec_ProgOk.mono _ _)
      | (with_reducible exact spec_l22Row.mono _ _ _)
      | (with_reducible exact LeO.refl _)
      | (with_reducible exact LeO.none _)
      | (with_reducible refine LeO.ite ?_ ?_)
      | (with_reducible refine LeO.bind ?_ (fun _ => ?_))
      | exact ih0 _ _ _
      | exact ih1 _ _ _ _
      | exact spec_ProgOk.mono _ _
      | exact spec_l22Row.mono _ _ _
      | exact LeO.none _
      | refine LeO.ite ?_ ?_
      | refine LeO.bind ?_ (fun _ => ?_)
    · intro y0 y1 y2 y3
      unfold spec_TurnThreads.l0
      repeat' first
      | (with_reducible exact ih0 _ _ _)
      | (with_reducible exact ih1 _ _ _ _)
      | (with_reducible exact spec_ProgOk.mono _ _)
      | (with_reducible exact spec_l22Row.mono _ _ _)
      | (with_reducible exact LeO.refl _)
      | (with_reducible exact LeO.none _)
      | (with_reducible refine LeO.ite ?_ ?_)
      | (with_reducible refine LeO.bind ?_ (fun _ => ?_))
      | exact ih0 _ _ _
      | exact ih1 _ _ _ _
      | exact spec_ProgOk.mono _ _
      | exact spec_l22Row.mono _ _ _
      | exact LeO.none _
      | refine LeO.ite ?_ ?_
      | refine LeO.bind ?_ (fun _ => ?_)
theorem spec_TurnThreads.mono : ∀ a0 a1 k, LeO (spec_TurnThreads.f k a0 a1) (spec_TurnThreads.f (k + 1) a0 a1) := by
  intro a0 a1 k
  obtain ⟨ih0, ih1⟩ := spec_TurnThreads.mono_l k
  unfold spec_TurnThreads.f
  repeat' first
      | (with_reducible exact ih0 _ _ _)
      | (with_reducible exact ih1 _ _ _ _)
      | (with_reducible exact spec_ProgOk.mono _ _)
      | (with_reducible exact spec_l22Row.mono _ _ _)
      | (with_reducible exact LeO.refl _)
      | (with_reducible exact LeO.none _)
      | (with_reducible refine LeO.ite ?_ ?_)
      | (with_reducible refine LeO.bind ?_ (fun _ => ?_))
      | exact ih0 _ _ _
      | exact ih1 _ _ _ _
      | exact spec_ProgOk.mono _ _
      | exact spec_l22Row.mono _ _ _
      | exact LeO.none _
      | refine LeO.ite ?_ ?_
      | refine LeO.bind ?_ (fun _ => ?_)
def spec_TurnThreads.T7 : Bool × List (List Nat × List Nat) := (true, [([], []), ([0], [0]), ([], []), ([], []), ([3], [3]), ([], []), ([], []), ([5, 6], [5, 6]), ([7], [7]), ([4, 8], [4, 8]), ([9], [9]), ([2, 10], [2, 10]), ([11], [11]), ([1, 12, 11], [1, 12]), ([0, 1, 2, 3, 4, 5, 6, 7, 8, 9, 10, 11, 12, 13], []), ([14, 13, 13, 0, 1, 2, 3, 4, 5, 6, 7, 8, 9, 10, 11, 12, 13], [13, 14])])
def spec_TurnThreads.B7 : List Nat := [0, 1, 0, 0, 8, 0, 0, 96, 224, 504, 1016, 2044, 4092, 8191, 16383, 32767]
theorem spec_TurnThreads.tab7 : rtab .any (opsOf Try.f49 7) = spec_TurnThreads.T7 := by kernel_rfl
theorem spec_TurnThreads.bits7 : waitsOk spec_TurnThreads.T7.2 spec_TurnThreads.B7 = true := by kernel_rfl
set_option maxHeartbeats 8000000 in
set_option maxRecDepth 100000 in
theorem spec_TurnThreads.calls (k : Nat) (A0_0 : Option Addr) (c0_0 : Nat) (l0_0 : List (List (S85))) (A1 : Option Addr) (c1 : Nat) (l1 : List Int) (r1 : List (List (S85))) (r2 : Bool) (w : World) (hr0_0 : Kd.C (Kd.slice 85 k85) w A0_0 l0_0.length l0_0) (hc0_0 : l0_0.length ≤ c0_0) (hr1 : Kd.C (Kd.int .i64) w A1 l1.length l1) (hc1 : l1.length ≤ c1) (h : spec_TurnThreads.f k l0_0 l1 = some (r1, r2)) :
  Calls Try.prog 49 #[.agg #[.slice A0_0 l0_0.length c0_0], .slice A1 l1.length c1] w fun e w' => ∃ v0_ : Value, e = .returned (.tuple #[.agg #[v0_], .bool r2]) ∧ Kd.S (Kd.slice 85 k85) 82 w' w.heap.size (fun _ => True) v0_ r1 ∧ Below w.heap.size w w' := by
 have hu35 := Try.underlying35
 have HR0_0 := am_ hr0_0
 have HC0_0 := am_ hc0_0
 clear hr0_0 hc0_0
 have HR1 := am_ hr1
 have HC1 := am_ hc1
 clear hr1 hc1
 have HB := am_ (Below.refl w.heap.size w)
 have H : ((spec_ProgOk.f k l0_0).bind fun t1023 => (if t1023 = true then ((spec_l22Row.f k l1 (l0_0.length : Int)).bind fun t1024 => (spec_TurnThreads.j0 k l1 (!t1024) l0_0)) else (spec_TurnThreads.j0 k l1 true l0_0))) = some (r1, r2) := h
 clear h
 have HC3 := am_ H
 clear H
 go_enter Try.func49, Try.ntmps49
 go_upto_region 1 with (first | ((with_reducible refine gate_dst (N := 2) rfl ?_); (try (refine gate_guard (by rfl) ?_; dsimp only)); refine box_event ?hg (N := 2) ?hd (cs := #[.slice A0_0 l0_0.length c0_0]) (t := 35) ?hr ?_; (case hd => rfl); (case hg => rfl); (case hr => first | (go_simp; done) | (go_simp; rfl)); intro gb1021 hg w4 hbox hb; have n0_ := am_ (below_step z49_4 hb); have n1_ := am_ (hbox); have n2_ := am_ (by rw [hg]; exact (below_size z49_4) : w.heap.size ≤ gb1021); have n3_ := am_ (by rw [hg]; exact (below_size z49_4) : w.heap.size ≤ gb1021); clear HB; have HB := n0_; have BK1021 := n1_; have GW1021 := n2_; have GE1021 := n3_; clear n0_ n1_ n2_ n3_; clear hb hbox hg) | ((with_reducible refine gate_dst (N := 4) rfl ?_); (try (refine gate_guard (by rfl) ?_; dsimp only)); refine box_event ?hg (N := 4) ?hd (cs := #[.slice none 0 0]) (t := 35) ?hr ?_; (case hd => rfl); (case hg => rfl); (case hr => first | (go_simp; done) | (go_simp; rfl)); intro gb1022 hg w5 hbox hb; have n0_ := am_ (blk_below (bu BK1021.out) hb); have n1_ := am_ (below_step z49_6 hb); have n2_ := am_ (hbox); have n3_ := am_ (by rw [hg]; exact (below_size z49_6) : w.heap.size ≤ gb1022); have n4_ := am_ (by rw [hg]; exact (below_size z49_6) : w.heap.size ≤ gb1022); have n5_ := am_ (by rw [hg]; exact Nat.ne_of_lt (blk_lt (bu BK1021.out)) : gb1021 ≠ gb1022); have n6_ := am_ (by rw [hg]; exact Nat.ne_of_gt (blk_lt (bu BK1021.out)) : gb1022 ≠ gb1021); clear BK1021 HB; have BK1021 := n0_; have HB := n1_; have BK1022 := n2_; have GW1022 := n3_; have GE1022 := n4_; have NB1021_1022 := n5_; have NB1022_1021 := n6_; clear n0_ n1_ n2_ n3_ n4_ n5_ n6_; clear hb hbox hg))
 (try simp only [Act.put, List.setIfInBounds_toArray, List.set_cons_zero, List.set_cons_succ])
 go_cut [18] (fun v18 wc => ∃ (kq : Nat) (x18_2 : Bool), v18 = .bool x18_2 ∧ Aside0 (spec_TurnThreads.j0 kq l1 x18_2 l0_0 = some (r1, r2)) ∧ Aside0 (kq ≤ k) ∧ Aside0 (wc.heap[gb1021]? = some (.cells #[(.slice A0_0 l0_0.length c0_0)] 35 (0, 0))) ∧ Aside0 (wc.heap[gb1022]? = some (.cells #[(.slice none 0 0)] 35 (0, 0))) ∧ Aside0 (Below w.heap.size w wc))
 case first =>
  have H := HC3.out
  clear HC3
  replace H := Option.bind_eq_some_iff.mp H
  obtain ⟨t1023, A60, H⟩ := H
  replace H : (if t1023 = true then ((spec_l22Row.f k l1 (l0_0.length : Int)).bind fun t1024 => (spec_TurnThreads.j0 k l1 (!t1024) l0_0)) else (spec_TurnThreads.j0 k l1 true l0_0)) = some (r1, r2) := H
  have A6 := am_ A60
  clear A60
  by_cases c7 : t1023 = true
  ·subst c7
   have H1 : ((spec_l22Row.f k l1 (l0_0.length : Int)).bind fun t1024 => (spec_TurnThreads.j0 k l1 (!t1024) l0_0)) = some (r1, r2) := by rw [if_pos rfl] at H; exact H
   clear H
   have H := H1
   clear H1
   replace H := Option.bind_eq_some_iff.mp H
   obtain ⟨t1024, A80, H⟩ := H
   replace H : (spec_TurnThreads.j0 k l1 (!t1024) l0_0) = some (r1, r2) := H
   have A8 := am_ A80
   clear A80
   have H' := am_ H
   clear H
   have hnb9 := NB1021_1022.out
   have hnc9 := NB1022_1021.out
   have hcz10_0 : w5.cell? ⟨gb1021, 0, none⟩ = some (.slice A0_0 l0_0.length c0_0) := (blk_cell BK1021.out 0).trans rfl
   have hfz10_0 := blk_frozen BK1021.out 0
   go_wp2_with (first | ((with_reducible refine gate_callee (f := 43) rfl ?_); refine goesL_ (some 9) rfl rfl Try.func43 (by kernel_rfl) rfl #[.agg #[.slice A0_0 l0_0.length c0_0]] rfl (by (try simp only [List.map_toArray, List.map_cons, List.map_nil]); first | done | rfl | (simp only [List.length_drop, List.length_take]; rfl)) ?_; (with_reducible refine (spec_ProgOk.calls k _ _ l0_0 true _ ?side1 ?side2 A6.out).mono ?_); (case side1 => repeat (first | exact (Kd.C_below HR0_0.out HB.out) | (with_reducible refine Kd.C_alloc ?_ _) | (with_reducible refine Kd.C_drewN ?_ _) | (with_reducible refine Kd.C_drew ?_))); (case side2 => exact HC0_0.out); rintro e w11 ⟨rfl, hb⟩; refine ⟨_, rfl, ?_⟩; have n0_ := am_ (blk_below (bu BK1021.out) hb); have n1_ := am_ (blk_below (bu BK1022.out) hb); have n2_ := am_ (below_step z49_7 hb); clear BK1021 BK1022 HB; have BK1021 := n0_; have BK1022 := n1_; have HB := n2_; clear n0_ n1_ n2_; (try clear hb); (try clear hb2); (try clear hk); (try clear hi); have hcz12_0 : w11.cell? ⟨gb1021, 0, none⟩ = some (.slice A0_0 l0_0.length c0_0) := (blk_cell BK1021.out 0).trans rfl; have hfz12_0 := blk_frozen BK1021.out 0) | (go_at_call 100; (with_reducible refine (spec_l22Row.calls k _ _ l1 (l0_0.length : Int) t1024 _ ?side1 ?side2 A8.out).mono ?_); (case side1 => repeat (first | exact (Kd.C_below HR1.out HB.out) | (with_reducible refine Kd.C_alloc ?_ _) | (with_reducible refine Kd.C_drewN ?_ _) | (with_reducible refine Kd.C_drew ?_))); (case side2 => exact HC1.out); rintro e w' ⟨rfl, ⟨nd, rfl⟩⟩))
   go_meet
   case rel => exact ⟨_, (!t1024), z49_1, H', ⟨by first | omega | exact Nat.le_refl _⟩, ⟨bu BK1021.out⟩, ⟨bu BK1022.out⟩, ⟨z49_7⟩⟩
  ·replace c7 := Bool.eq_false_iff.mpr c7
   subst c7
   have H1 : (spec_TurnThreads.j0 k l1 true l0_0) = some (r1, r2) := by rw [if_neg (show ¬ (false = true) by decide)] at H; exact H
   clear H
   have H := H1
   clear H1
   have H' := am_ H
   clear H
   have hnb13 := NB1021_1022.out
   have hnc13 := NB1022_1021.out
   have hcz14_0 : w5.cell? ⟨gb1021, 0, none⟩ = some (.slice A0_0 l0_0.length c0_0) := (blk_cell BK1021.out 0).trans rfl
   have hfz14_0 := blk_frozen BK1021.out 0
   go_wp2_with (first | ((with_reducible refine gate_callee (f := 43) rfl ?_); refine goesL_ (some 9) rfl rfl Try.func43 (by kernel_rfl) rfl #[.agg #[.slice A0_0 l0_0.length c0_0]] rfl (by (try simp only [List.map_toArray, List.map_cons, List.map_nil]); first | done | rfl | (simp only [List.length_drop, List.length_take]; rfl)) ?_; (with_reducible refine (spec_ProgOk.calls k _ _ l0_0 false _ ?side1 ?side2 A6.out).mono ?_); (case side1 => repeat (first | exact (Kd.C_below HR0_0.out HB.out) | (with_reducible refine Kd.C_alloc ?_ _) | (with_reducible refine Kd.C_drewN ?_ _) | (with_reducible refine Kd.C_drew ?_))); (case side2 => exact HC0_0.out); rintro e w15 ⟨rfl, hb⟩; refine ⟨_, rfl, ?_⟩; have n0_ := am_ (blk_below (bu BK1021.out) hb); have n1_ := am_ (blk_below (bu BK1022.out) hb); have n2_ := am_ (below_step z49_7 hb); clear BK1021 BK1022 HB; have BK1021 := n0_; have BK1022 := n1_; have HB := n2_; clear n0_ n1_ n2_; (try clear hb); (try clear hb2); (try clear hk); (try clear hi)))
   go_meet
   case rel => exact ⟨_, (true), z49_1, H', ⟨by first | omega | exact Nat.le_refl _⟩, ⟨bu BK1021.out⟩, ⟨bu BK1022.out⟩, ⟨z49_7⟩⟩
 case rest =>
  clear HC3
  obtain ⟨kq, x18_2, rfl, HA, HJ2, BK1021, BK1022, HB⟩ := hcut
  cases kq with
  | zero => exact absurd HA.out (by simp [spec_TurnThreads.j0])
  | succ kj2 =>
   have H := HA.out
   clear HA
   simp only [spec_TurnThreads.j0] at H
   by_cases c16 : x18_2 = true
   ·subst c16
    have H1 : (some (([] : List (List (S85))), false)) = some (r1, r2) := by rw [if_pos rfl] at H; exact H
    clear H
    have H := H1
    clear H1
    simp only [Option.some.injEq, Prod.mk.injEq] at H
    obtain ⟨rfl, rfl⟩ := H
    have hnb17 := NB1022_1021.out
    have hnc17 := NB1021_1022.out
    have hcz18_0 : wc.cell? ⟨gb1022, 0, none⟩ = some (.slice none 0 0) := (blk_cell BK1022.out 0).trans rfl
    have hfz18_0 := blk_frozen BK1022.out 0
    go_wp2
    refine bodyPost_ret (results_ct rfl _ _ gb1022 35 #[.slice none 0 0] (0, 0) _ rfl z49_11 Try.underlying35 rfl (by kernel_rfl)) rfl ?_
    exact ⟨_, z49_3, z49_5, z49_7⟩
   ·replace c16 := Bool.eq_false_iff.mpr c16
    subst c16
    have H1 : (spec_TurnThreads.l0 kj2 l1 0 l0_0 ([] : List (List (S85)))) = some (r1, r2) := by rw [if_neg (show ¬ (false = true) by decide)] at H; exact H
    clear H
    have H := H1
    clear H1
    have H' := am_ H
    clear H
    go_wp2_with (first | ((with_reducible refine gate_dst (N := 6) rfl ?_); (try (refine gate_guard (by rfl) ?_; dsimp only)); refine box_event ?hg (N := 6) ?hd (cs := #[.slice none 0 0]) (t := 35) ?hr ?_; (case hd => rfl); (case hg => rfl); (case hr => first | (go_simp; done) | (go_simp; rfl)); intro gb1025 hg w19 hbox hb; have n0_ := am_ (blk_below (bu BK1021.out) hb); have n1_ := am_ (blk_below (bu BK1022.out) hb); have n2_ := am_ (below_step z49_7 hb); have n3_ := am_ (hbox); have n4_ := am_ (by rw [hg]; exact (below_size z49_7) : w.heap.size ≤ gb1025); have n5_ := am_ (by rw [hg]; exact (below_size z49_7) : w.heap.size ≤ gb1025); have n6_ := am_ (by rw [hg]; exact Nat.ne_of_lt (blk_lt (bu BK1021.out)) : gb1021 ≠ gb1025); have n7_ := am_ (by rw [hg]; exact Nat.ne_of_gt (blk_lt (bu BK1021.out)) : gb1025 ≠ gb1021); have n8_ := am_ (by rw [hg]; exact Nat.ne_of_lt (blk_lt (bu BK1022.out)) : gb1022 ≠ gb1025); have n9_ := am_ (by rw [hg]; exact Nat.ne_of_gt (blk_lt (bu BK1022.out)) : gb1025 ≠ gb1022); clear BK1021 BK1022 HB; have BK1021 := n0_; have BK1022 := n1_; have HB := n2_; have BK1025 := n3_; have GW1025 := n4_; have GE1025 := n5_; have NB1021_1025 := n6_; have NB1025_1021 := n7_; have NB1022_1025 := n8_; have NB1025_1022 := n9_; clear n0_ n1_ n2_ n3_ n4_ n5_ n6_ n7_ n8_ n9_; clear hb hbox hg; have hnb20 := NB1025_1021.out; have hnc20 := NB1021_1025.out; have hnb21 := NB1025_1022.out; have hnc21 := NB1022_1025.out; have hcz22_0 : w19.cell? ⟨gb1025, 0, none⟩ = some (.slice none 0 0) := (blk_cell BK1025.out 0).trans rfl; have hfz22_0 := blk_frozen BK1025.out 0))
    go_loopg [7] kj2 (fun kq v7 w' => ∃ (x7_2 : Int) (x1026000_2 : List (List (S85))) (u1026000 : Value), v7 = .int .i64 x7_2 ∧ Aside0 (spec_TurnThreads.l0 kq l1 x7_2 l0_0 x1026000_2 = some (r1, r2)) ∧ Aside0 (kq ≤ kj2) ∧ Aside0 (Kd.S (Kd.slice 85 k85) 82 w' w.heap.size (fun _ => True) u1026000 x1026000_2) ∧ Aside0 (w'.heap[gb1021]? = some (.cells #[(.slice A0_0 l0_0.length c0_0)] 35 (0, 0))) ∧ Aside0 (w'.heap[gb1022]? = some (.cells #[(.slice none 0 0)] 35 (0, 0))) ∧ Aside0 (w'.heap[gb1025]? = some (.cells #[u1026000] 35 (0, 0))) ∧ Aside0 (Below w.heap.size w w'))
    case atStart => exact ⟨(0), (([] : List (List (S85)))), (.slice none 0 0), z49_1, H', ⟨Nat.le_refl _⟩, ⟨z49_5⟩, ⟨z49_9⟩, ⟨z49_10⟩, ⟨by (with_reducible repeat (first | refine blk_drewN ?_ _ | refine blk_drew ?_ | refine blk_alloc ?_ _)); refine blk_put (cs := #[.slice none 0 0]) ?_ 0 _ rfl; (with_reducible repeat (first | refine blk_drewN ?_ _ | refine blk_drew ?_ | refine blk_alloc ?_ _)); exact BK1025.out⟩, ⟨z49_8⟩⟩
    case round =>
     clear H'
     obtain ⟨x7_2, x1026000_2, u1026000, rfl, HA, HK2, HO_1026000, BK1021, BK1022, BK1025, HB⟩ := hrel
     cases gk with
     | zero => exact absurd HA.out (by simp [spec_TurnThreads.l0])
     | succ k2 =>
      have H := HA.out
      clear HA
      simp only [spec_TurnThreads.l0] at H
      by_cases c23 : x7_2 < (l1.length : Int)
      ·rw [if_pos c23] at H
       have c23b0 : decide (x7_2 < (l1.length : Int)) = true := decide_eq_true c23
       clear c23
       obtain ⟨y1026, hy1026⟩ : ∃ y_ : List (S85), y_ = (([] : List (S85))) := ⟨_, rfl⟩
       replace H : (if 0 ≤ x7_2 then (if 0 ≤ (rd l1 x7_2) then (if (rd l1 x7_2) < (l0_0.length : Int) then (if y1026.length + (rd_L7 l0_0 (rd l1 x7_2)).length < 5864062014805 then (if x1026000_2.length < 5864062014805 then (spec_TurnThreads.l0 k2 l1 (wrap64 (x7_2 + 1)) l0_0 (x1026000_2 ++ [(y1026 ++ (rd_L7 l0_0 (rd l1 x7_2)))])) else (none)) else (none)) else (none)) else (none)) else (none)) = some (r1, r2) := by first | (rw [hy1026]; with_reducible exact H) | (have H2_ := (Option.bind_some _ _).symm.trans H; rw [hy1026]; with_reducible exact H2_) | (have H2_ := (Option.bind_some _ _).symm.trans H; with_reducible exact H2_) | with_reducible exact H | (rw [hy1026]; exact H) | exact H
       have Ny1026 := am_ hy1026
       clear hy1026
       by_cases c24 : 0 ≤ x7_2
       ·rw [if_pos c24] at H
        have c24b0 : decide (0 ≤ x7_2) = true := decide_eq_true c24
        clear c24
        by_cases c25 : 0 ≤ (rd l1 x7_2)
        ·rw [if_pos c25] at H
         have c25b0 : decide (0 ≤ (rd l1 x7_2)) = true := decide_eq_true c25
         clear c25
         by_cases c26 : (rd l1 x7_2) < (l0_0.length : Int)
         ·rw [if_pos c26] at H
          have c26b0 : decide ((rd l1 x7_2) < (l0_0.length : Int)) = true := decide_eq_true c26
          clear c26
          by_cases c27 : y1026.length + (rd_L7 l0_0 (rd l1 x7_2)).length < 5864062014805
          ·rw [if_pos c27] at H
           have LMc27 := am_ c27
           clear c27
           obtain ⟨y1031, hy1031⟩ : ∃ y_ : List (S85), y_ = (y1026 ++ (rd_L7 l0_0 (rd l1 x7_2))) := ⟨_, rfl⟩
           replace H : (if x1026000_2.length < 5864062014805 then (spec_TurnThreads.l0 k2 l1 (wrap64 (x7_2 + 1)) l0_0 (x1026000_2 ++ [y1031])) else (none)) = some (r1, r2) := by first | (rw [hy1031]; with_reducible exact H) | (have H2_ := (Option.bind_some _ _).symm.trans H; rw [hy1031]; with_reducible exact H2_) | (have H2_ := (Option.bind_some _ _).symm.trans H; with_reducible exact H2_) | with_reducible exact H | (rw [hy1031]; exact H) | exact H
           have Ny1031 := am_ hy1031
           clear hy1031
           by_cases c28 : x1026000_2.length < 5864062014805
           ·rw [if_pos c28] at H
            have LMc28 := am_ c28
            clear c28
            obtain ⟨y1034, hy1034⟩ : ∃ y_ : List (List (S85)), y_ = (x1026000_2 ++ [y1031]) := ⟨_, rfl⟩
            replace H : (spec_TurnThreads.l0 k2 l1 (wrap64 (x7_2 + 1)) l0_0 y1034) = some (r1, r2) := by first | (rw [hy1034]; with_reducible exact H) | (have H2_ := (Option.bind_some _ _).symm.trans H; rw [hy1034]; with_reducible exact H2_) | (have H2_ := (Option.bind_some _ _).symm.trans H; with_reducible exact H2_) | with_reducible exact H | (rw [hy1034]; exact H) | exact H
            have Ny1034 := am_ hy1034
            clear hy1034
            have H' := am_ H
            clear H
            try go_wp2
            have n0_ := am_ (Kd.S_drew HO_1026000.out)
            have n1_ := am_ (blk_drew BK1021.out)
            have n2_ := am_ (blk_drew BK1022.out)
            have n3_ := am_ (blk_drew BK1025.out)
            have n4_ := am_ (below_drew1 HB.out)
            clear HO_1026000 BK1021 BK1022 BK1025 HB
            have HO_1026000 := n0_
            have BK1021 := n1_
            have BK1022 := n2_
            have BK1025 := n3_
            have HB := n4_
            clear n0_ n1_ n2_ n3_ n4_
            have p1029 : 0 ≤ (x7_2 : Int) := of_decide_eq_true z49_2
            have q1029 : x7_2 < (l1.length : Int) := of_decide_eq_true z49_2
            obtain ⟨ad1029, e1029, hx1029_0⟩ := Kd.at_int HR1.out x7_2 p1029 q1029
            have hw1029_0 := hx1029_0
            cases e1029
            replace hx1029_0 := (HB.out.cell (World.block_lt_of_cell? w _ hx1029_0)).trans hx1029_0
            replace p1029 := eq_true p1029
            replace q1029 := eq_true q1029
            have p1030 : 0 ≤ ((rd l1 x7_2) : Int) := of_decide_eq_true z49_2
            have q1030 : (rd l1 x7_2) < (l0_0.length : Int) := of_decide_eq_true z49_2
            obtain ⟨ad1030, A1030_0, c1030_0, e1030, hx1030_0, hl1030_0, hi1030_0⟩ := at_L7 HR0_0.out (rd l1 x7_2) p1030 q1030
            have hw1030_0 := hx1030_0
            cases e1030
            replace hx1030_0 := (HB.out.cell (World.block_lt_of_cell? w _ hx1030_0)).trans hx1030_0
            have HR1030_0 := am_ hi1030_0
            have HC1030_0 := am_ hl1030_0
            clear hi1030_0 hl1030_0
            replace p1030 := eq_true p1030
            replace q1030 := eq_true q1030
            refine start_ (n := 16) (S := fun w' => w'.cell? ⟨gb1025, 0, none⟩ = some (u1026000) ∧ w'.cell? ⟨gb1021, 0, none⟩ = some (.slice (some ad1030) l0_0.length c0_0) ∧ w'.cell? (ad1029.add (x7_2).toNat) = some (.int .i64 (rd l1 x7_2)) ∧ w'.cell? (ad1030.add ((rd l1 x7_2)).toNat) = some (.slice A1030_0 (rd_L7 l0_0 (rd l1 x7_2)).length c1030_0)) (ds := [15]) #[false, false, false, false, false, false, false, false, false, false, false, false, false, false, false, false] (by kernel_rfl) rfl rfl ⟨(blk_cell BK1025.out 0).trans rfl, (blk_cell BK1021.out 0).trans rfl, ((HB.out.cell (World.block_lt_of_cell? w _ hw1029_0)).trans hw1029_0), ((HB.out.cell (World.block_lt_of_cell? w _ hw1030_0)).trans hw1030_0)⟩ (fun hHeld => ?_); refine with_tabW spec_TurnThreads.tab7 spec_TurnThreads.bits7 (fun HT_ HW_ => ?_)
            generalize wr.drew = w29 at HO_1026000 BK1021 BK1022 BK1025 HB HR1030_0 hx1029_0 hx1030_0 hHeld ⊢
            refine pure_ (i := 0) (N := some 27) (v := ?_) (a' := ?_) #[true, false, false, false, false, false, false, false, false, false, false, false, false, false, false, false] rfl rfl (any_of HT_.out (by kernel_rfl)) (fun _ _ _ h => h) (Or.inl ⟨by rfl, ?_⟩) ?_ ?_
            rotate_left
            ·intro w'
             go_simp
             with_reducible rfl
            rotate_left
            ·simp only [Act.put, List.setIfInBounds_toArray, List.set_cons_zero, List.set_cons_succ, i64_w, i32_w]
             rfl
            refine pure_ (i := 3) (N := some 30) (v := ?_) (a' := ?_) #[true, false, false, true, false, false, false, false, false, false, false, false, false, false, false, false] rfl rfl (any_of HT_.out (by kernel_rfl)) (fun _ _ _ h => h) (Or.inl ⟨by rfl, ?_⟩) ?_ ?_
            rotate_left
            ·intro w'
             go_simp
             with_reducible rfl
            rotate_left
            ·simp only [Act.put, List.setIfInBounds_toArray, List.set_cons_zero, List.set_cons_succ, i64_w, i32_w]
             rfl
            refine pure_ (i := 5) (N := some 32) (v := ?_) (a' := ?_) #[true, false, false, true, false, true, false, false, false, false, false, false, false, false, false, false] rfl rfl (any_of HT_.out (by kernel_rfl)) (fun _ _ _ h => h) (Or.inl ⟨by rfl, ?_⟩) ?_ ?_
            rotate_left
            ·intro w'
             go_simp
             with_reducible rfl
            rotate_left
            ·simp only [Act.put, List.setIfInBounds_toArray, List.set_cons_zero, List.set_cons_succ, i64_w, i32_w]
             rfl
            refine pure_ (i := 6) (N := some 33) (v := ?_) (a' := ?_) #[true, false, false, true, false, true, true, false, false, false, false, false, false, false, false, false] rfl rfl (any_of HT_.out (by kernel_rfl)) (fun _ _ _ h => h) (Or.inl ⟨by rfl, ?_⟩) ?_ ?_
            rotate_left
            ·intro w'
             go_simp
             with_reducible rfl
            rotate_left
            ·simp only [Act.put, List.setIfInBounds_toArray, List.set_cons_zero, List.set_cons_succ, i64_w, i32_w]
             rfl
            refine pure_ (i := 7) (N := some 34) (v := ?_) (a' := ?_) #[true, false, false, true, false, true, true, true, false, false, false, false, false, false, false, false] rfl rfl (any_of HT_.out (by kernel_rfl)) (fun _ _ _ h => h) (Or.inl ⟨by rfl, ?_⟩) ?_ ?_
            rotate_left
            ·intro w'
             go_simp
             with_reducible rfl
            rotate_left
            ·simp only [Act.put, List.setIfInBounds_toArray, List.set_cons_zero, List.set_cons_succ, i64_w, i32_w]
             rfl
            refine take_ (i := 1) (N := some 28) (v := ?_) (a' := ?_) #[true, true, false, true, false, true, true, true, false, false, false, false, false, false, false, false] rfl rfl (take_ofW HT_.out HW_.out (by kernel_rfl)) (fun _ _ _ h => h) (Or.inl ⟨by rfl, ?_⟩) hHeld ?_ ?_
            rotate_left
            ·rintro w' ⟨s0, s1, s2, s3⟩
             go_simp
             with_reducible rfl
            rotate_left
            ·simp only [Act.put, List.setIfInBounds_toArray, List.set_cons_zero, List.set_cons_succ, i64_w, i32_w]
             rfl
            refine take_ (i := 4) (N := some 31) (v := ?_) (a' := ?_) #[true, true, false, true, true, true, true, true, false, false, false, false, false, false, false, false] rfl rfl (take_ofW HT_.out HW_.out (by kernel_rfl)) (fun _ _ _ h => h) (Or.inl ⟨by rfl, ?_⟩) hHeld ?_ ?_
            rotate_left
            ·rintro w' ⟨s0, s1, s2, s3⟩
             go_simp
             with_reducible rfl
            rotate_left
            ·simp only [Act.put, List.setIfInBounds_toArray, List.set_cons_zero, List.set_cons_succ, i64_w, i32_w]
             rfl
            refine take_ (i := 8) (N := some 35) (v := ?_) (a' := ?_) #[true, true, false, true, true, true, true, true, true, false, false, false, false, false, false, false] rfl rfl (take_ofW HT_.out HW_.out (by kernel_rfl)) (fun _ _ _ h => h) (Or.inl ⟨by rfl, ?_⟩) hHeld ?_ ?_
            rotate_left
            ·rintro w' ⟨s0, s1, s2, s3⟩
             go_simp
             with_reducible rfl
            rotate_left
            ·simp only [Act.put, List.setIfInBounds_toArray, List.set_cons_zero, List.set_cons_succ, i64_w, i32_w]
             rfl
            refine pure_ (i := 9) (N := some 36) (v := ?_) (a' := ?_) #[true, true, false, true, true, true, true, true, true, true, false, false, false, false, false, false] rfl rfl (any_of HT_.out (by kernel_rfl)) (fun _ _ _ h => h) (Or.inl ⟨by rfl, ?_⟩) ?_ ?_
            rotate_left
            ·intro w'
             go_simp
             with_reducible rfl
            rotate_left
            ·simp only [Act.put, List.setIfInBounds_toArray, List.set_cons_zero, List.set_cons_succ, i64_w, i32_w]
             rfl
            refine take_ (i := 10) (N := some 37) (v := ?_) (a' := ?_) #[true, true, false, true, true, true, true, true, true, true, true, false, false, false, false, false] rfl rfl (take_ofW HT_.out HW_.out (by kernel_rfl)) (fun _ _ _ h => h) (Or.inl ⟨by rfl, ?_⟩) hHeld ?_ ?_
            rotate_left
            ·rintro w' ⟨s0, s1, s2, s3⟩
             go_simp
             with_reducible rfl
            rotate_left
            ·simp only [Act.put, List.setIfInBounds_toArray, List.set_cons_zero, List.set_cons_succ, i64_w, i32_w]
             rfl
            refine one_ (i := 2) (N := some 29) #[true, true, true, true, true, true, true, true, true, true, true, false, false, false, false, false] rfl rfl (one_of HT_.out (by kernel_rfl)) (by decide) (fun K hK => ?_)
            refine Kd.R_lit_step k85 _ 85 ?hg (N := 29) ?hd (xs := ([] : List (S85))) (inner := []) (ok := fun _ => True) (okp := fun _ => True) ?hr ?hp (fun _ hk => hk) trivial (Below.refl _ _) (Nat.le_refl _) (by simp) ?_; (case hd => rfl); (case hg => rfl); (case hr => first | (go_simp; done) | (go_simp; rfl)); (case hp => exact (Reps.none _ _))
            intro v1027 w30 ho31 hb hg_ hnew_
            clear hg_ hnew_
            (first | rw [← Ny1026.out] at ho31 | (simp only [Int.reduceToNat] at ho31; rw [← Ny1026.out] at ho31))
            have n0_ := am_ (Kd.S_elder' (su HO_1026000.out) (Kd.R_base ho31) hb)
            have n1_ := am_ (Kd.R_lower ho31 (below_size z49_8))
            have n2_ := am_ (blk_below (bu BK1021.out) hb)
            have n3_ := am_ (blk_below (bu BK1022.out) hb)
            have n4_ := am_ (blk_below (bu BK1025.out) hb)
            have n5_ := am_ (below_step z49_8 hb)
            clear HO_1026000 BK1021 BK1022 BK1025 HB
            have HO_1026000 := n0_
            have HO1028 := n1_
            have BK1021 := n2_
            have BK1022 := n3_
            have BK1025 := n4_
            have HB := n5_
            clear n0_ n1_ n2_ n3_ n4_ n5_ hb ho31
            refine hK.out _ _ ⟨(blk_cell BK1025.out 0).trans rfl, (blk_cell BK1021.out 0).trans rfl, ((HB.out.cell (World.block_lt_of_cell? w _ hw1029_0)).trans hw1029_0), ((HB.out.cell (World.block_lt_of_cell? w _ hw1030_0)).trans hw1030_0)⟩ (fun hHeld => ?_)
            clear hK K
            refine norm_ (a' := ?_) ?_ ?_
            rotate_left
            ·show Act.put _ (some 29) _ = _
             simp only [Act.put, List.setIfInBounds_toArray, List.set_cons_zero, List.set_cons_succ, i64_w, i32_w]
             rfl
            refine one_ (i := 11) (N := some 38) #[true, true, true, true, true, true, true, true, true, true, true, true, false, false, false, false] rfl rfl (one_of HT_.out (by kernel_rfl)) (by decide) (fun K hK => ?_)
            refine Kd.R_append_rows_step k85 (w0 := w) w.heap.size (by rfl) (.tmp 29) (.tmp 37) 82 85 (.agg #[(.int .i64 0), (.int .i64 0), (.int .i64 0)]) 24 rfl Try.underlying82 info85 rfl (by decide) (by omega) v1027 y1026 (rd_L7 l0_0 (rd l1 x7_2)) _ _ _ (fun _ => True) (fun _ => False) rfl rfl ?aO ?aR (fun _ _ h => h) (fun _ h => h.elim) ?aF ?aB ?aS ?aL ?_
            (case aR => repeat (first | exact (Kd.C_below HR1030_0.out HB.out) | (with_reducible refine Kd.C_alloc ?_ _) | (with_reducible refine Kd.C_drewN ?_ _) | (with_reducible refine Kd.C_drew ?_)))
            (case aB => exact z49_8)
            (case aF => exact (fun _ _ => trivial))
            (case aO => exact (ru HO1028.out))
            (case aS => exact (below_size z49_8))
            (case aL => have := LMc27.out; omega)
            intro v1032 w32 ho hb hg hat
            rw [← Ny1031.out] at ho
            have n0_ := am_ (Kd.S_after (ok := (fun _ => True)) (su HO_1026000.out) hg hat)
            have n1_ := am_ (blk_grown (bu BK1021.out) hg (Kd.R_ne HO1028.out BK1021.out (by decide)))
            have n2_ := am_ (blk_grown (bu BK1022.out) hg (Kd.R_ne HO1028.out BK1022.out (by decide)))
            have n3_ := am_ (blk_grown (bu BK1025.out) hg (Kd.R_ne HO1028.out BK1025.out (by decide)))
            have n4_ := am_ (hb)
            have n5_ := am_ (ho)
            clear HO_1026000 BK1021 BK1022 BK1025 HB HO1028
            have HO_1026000 := n0_
            have BK1021 := n1_
            have BK1022 := n2_
            have BK1025 := n3_
            have HB := n4_
            have HO1033 := n5_
            clear n0_ n1_ n2_ n3_ n4_ n5_ ho hb hg hat
            obtain ⟨Ao34, co34, eo34⟩ := Kd.R_slice HO1033.out
            (first | subst eo34 | (injection eo34 with f1_ f2_ f3_; have f4_ := f1_.symm; have f5_ := f3_.symm; clear f1_ f2_ f3_; subst f4_; subst f5_))
            refine hK.out _ _ ⟨(blk_cell BK1025.out 0).trans rfl, (blk_cell BK1021.out 0).trans rfl, ((HB.out.cell (World.block_lt_of_cell? w _ hw1029_0)).trans hw1029_0), ((HB.out.cell (World.block_lt_of_cell? w _ hw1030_0)).trans hw1030_0)⟩ (fun hHeld => ?_)
            clear hK K
            refine norm_ (a' := ?_) ?_ ?_
            rotate_left
            ·show Act.put _ (some 38) _ = _
             simp only [Act.put, List.setIfInBounds_toArray, List.set_cons_zero, List.set_cons_succ, i64_w, i32_w]
             rfl
            refine one_ (i := 12) (N := some 39) #[true, true, true, true, true, true, true, true, true, true, true, true, true, false, false, false] rfl rfl (one_of HT_.out (by kernel_rfl)) (by decide) (fun K hK => ?_)
            refine value_ (w1 := ?_) (v := ?_) (by rfl) rfl ?_ ?_
            rotate_left 2
            ·go_simp
             constructor
             ·rfl
             ·rfl
            refine hK.out _ _ ⟨(blk_cell (blk_alloc BK1025.out _) 0).trans rfl, (blk_cell (blk_alloc BK1021.out _) 0).trans rfl, (World.cell?_alloc_lt _ _ _ (World.block_lt_of_cell? _ _ (((HB.out.cell (World.block_lt_of_cell? w _ hw1029_0)).trans hw1029_0)))).trans (((HB.out.cell (World.block_lt_of_cell? w _ hw1029_0)).trans hw1029_0)), (World.cell?_alloc_lt _ _ _ (World.block_lt_of_cell? _ _ (((HB.out.cell (World.block_lt_of_cell? w _ hw1030_0)).trans hw1030_0)))).trans (((HB.out.cell (World.block_lt_of_cell? w _ hw1030_0)).trans hw1030_0))⟩ (fun hHeld => ?_)
            clear hK K
            refine norm_ (a' := ?_) ?_ ?_
            rotate_left
            ·show Act.put _ (some 39) _ = _
             simp only [Act.put, List.setIfInBounds_toArray, List.set_cons_zero, List.set_cons_succ, i64_w, i32_w]
             rfl
            refine one_ (i := 13) (N := some 40) #[true, true, true, true, true, true, true, true, true, true, true, true, true, true, false, false] rfl rfl (one_of HT_.out (by kernel_rfl)) (by decide) (fun K hK => ?_)
            refine Kd.S_append_step (Kd.slice 85 k85) (w0 := w) w.heap.size (by rfl) (.tmp 28) (.tmp 39) 33 82 (.slice none 0 0) 24 rfl Try.underlying33 info82 rfl (by decide) (by omega) u1026000 x1026000_2 y1031 [.slice Ao34 y1031.length co34] (fun _ => True) (fun k_ => some k_ = (.slice Ao34 y1031.length co34 : Value).ownBlock) rfl rfl ?aP (fun k_ hk_ => ((Kd.R_mono (ok' := fun k_ => ((fun _ => True)) k_ ∧ some k_ ≠ (u1026000 : Value).ownBlock) (Kd.R_apart' (HO1033.out) (Kd.S_typed HO_1026000.out) (by decide)) (fun k_ hk => ⟨trivial, hk.2⟩))).1 k_ hk_.symm) ?aF ?aO ?aB ?aS ?aL ?_
            (case aP => exact Kd.M_row (Kd.R_mono (Kd.R_tight rfl (Kd.R_mono (ok' := fun k_ => ((fun _ => True)) k_ ∧ some k_ ≠ (u1026000 : Value).ownBlock) (Kd.R_apart' (HO1033.out) (Kd.S_typed HO_1026000.out) (by decide)) (fun k_ hk => ⟨trivial, hk.2⟩))) (fun _ h_ => h_)))
            (case aB => exact z49_8)
            (case aF => exact (fun _ _ => trivial))
            (case aO => exact (su (Kd.S_mono HO_1026000.out (fun k_ hk => ⟨trivial, fun e_ => hk.2 e_⟩))))
            (case aS => exact (below_size z49_8))
            (case aL => have := LMc28.out; omega)
            intro v1035 w33 ho hb hg hat
            rw [← Ny1034.out] at ho
            have n0_ := am_ (blk_grown (bu BK1021.out) hg (Kd.S_ne HO_1026000.out BK1021.out (by decide)))
            have n1_ := am_ (blk_grown (bu BK1022.out) hg (Kd.S_ne HO_1026000.out BK1022.out (by decide)))
            have n2_ := am_ (blk_grown (bu BK1025.out) hg (Kd.S_ne HO_1026000.out BK1025.out (by decide)))
            have n3_ := am_ (hb)
            have n4_ := am_ (ho)
            clear BK1021 BK1022 BK1025 HB HO_1026000 HO1033
            have BK1021 := n0_
            have BK1022 := n1_
            have BK1025 := n2_
            have HB := n3_
            have HO1036 := n4_
            clear n0_ n1_ n2_ n3_ n4_ ho hb hg hat
            obtain ⟨Ao35, co35, eo35⟩ := Kd.S_slice HO1036.out
            (first | subst eo35 | (injection eo35 with f1_ f2_ f3_; have f4_ := f1_.symm; have f5_ := f3_.symm; clear f1_ f2_ f3_; subst f4_; subst f5_))
            refine hK.out _ _ ⟨(blk_cell BK1025.out 0).trans rfl, (blk_cell BK1021.out 0).trans rfl, ((HB.out.cell (World.block_lt_of_cell? w _ hw1029_0)).trans hw1029_0), ((HB.out.cell (World.block_lt_of_cell? w _ hw1030_0)).trans hw1030_0)⟩ (fun hHeld => ?_)
            clear hK K
            refine norm_ (a' := ?_) ?_ ?_
            rotate_left
            ·show Act.put _ (some 40) _ = _
             simp only [Act.put, List.setIfInBounds_toArray, List.set_cons_zero, List.set_cons_succ, i64_w, i32_w]
             rfl
            refine pure_ (i := 14) (N := some 41) (v := ?_) (a' := ?_) #[true, true, true, true, true, true, true, true, true, true, true, true, true, true, true, false] rfl rfl (any_of HT_.out (by kernel_rfl)) (fun _ _ _ h => h) (Or.inl ⟨by rfl, ?_⟩) ?_ ?_
            rotate_left
            ·intro w'
             go_simp
             with_reducible rfl
            rotate_left
            ·simp only [Act.put, List.setIfInBounds_toArray, List.set_cons_zero, List.set_cons_succ, i64_w, i32_w]
             rfl
            refine last_ (i := 15) (N := none) #[true, true, true, true, true, true, true, true, true, true, true, true, true, true, true, true] rfl rfl (one_of HT_.out (by kernel_rfl)) (by decide) (fun K hK => ?_)
            have hs36 : w33.cell? ⟨gb1025, 0, none⟩ = some (u1026000) := (blk_cell BK1025.out 0).trans rfl
            have hfs36 := blk_frozen BK1025.out 0
            have hns36_0 := NB1021_1025.out
            have hns36_1 := NB1022_1025.out
            have hms36_0 := NB1025_1021.out
            have hms36_1 := NB1025_1022.out
            refine skip_ (w1 := ?_) (by rfl) rfl ?_ ?_
            rotate_left
            ·go_simp
             rfl
            refine hK.out _ _ ?_
            clear hK K
            refine done_ (done_of HT_.out (by kernel_rfl)) ?_
            try go_wp2
            go_roundg k2
            case measure => have := HJ2.out; have := HK2.out; omega
            case rel => exact ⟨(wrap64 (x7_2 + 1)), (y1034), (.slice Ao35 y1034.length co35), z49_1, H', ⟨by have := HJ2.out; have := HK2.out; omega⟩, ⟨su (Kd.S_mono (Kd.S_far (p := ⟨gb1025, 0, none⟩) (Kd.S_types HO1036.out BK1025.out (by decide)) (fun _ hk => hk.2) (.slice Ao35 y1034.length co35)) (fun _ hk => trivial))⟩, ⟨z49_9⟩, ⟨z49_10⟩, ⟨by (with_reducible repeat (first | refine blk_drewN ?_ _ | refine blk_drew ?_ | refine blk_alloc ?_ _)); refine blk_put (cs := #[u1026000]) ?_ 0 _ rfl; (with_reducible repeat (first | refine blk_drewN ?_ _ | refine blk_drew ?_ | refine blk_alloc ?_ _)); exact BK1025.out⟩, ⟨z49_8⟩⟩
           ·rw [if_neg c28] at H
            exact absurd H (by simp)
          ·rw [if_neg c27] at H
           exact absurd H (by simp)
         ·rw [if_neg c26] at H
          exact absurd H (by simp)
        ·rw [if_neg c25] at H
         exact absurd H (by simp)
       ·rw [if_neg c24] at H
        exact absurd H (by simp)
      ·rw [if_neg c23] at H
       have c23b0 : decide (x7_2 < (l1.length : Int)) = false := decide_eq_false c23
       clear c23
       simp only [Option.some.injEq, Prod.mk.injEq] at H
       obtain ⟨rfl, rfl⟩ := H
       have hnb37 := NB1025_1021.out
       have hnc37 := NB1021_1025.out
       have hnb38 := NB1025_1022.out
       have hnc38 := NB1022_1025.out
       have hcz39_0 : wr.cell? ⟨gb1025, 0, none⟩ = some (u1026000) := (blk_cell BK1025.out 0).trans rfl
       have hfz39_0 := blk_frozen BK1025.out 0
       obtain ⟨Ao40, co40, eo40⟩ := Kd.S_slice HO_1026000.out
       subst eo40
       have hnb41 := NB1022_1021.out
       have hnc41 := NB1021_1022.out
       have hcz42_0 : wr.cell? ⟨gb1022, 0, none⟩ = some (.slice none 0 0) := (blk_cell BK1022.out 0).trans rfl
       have hfz42_0 := blk_frozen BK1022.out 0
       go_wp2
       refine bodyPost_ret (results_ct rfl _ _ gb1022 35 #[.slice Ao40 x1026000_2.length co40] (0, 0) _ rfl z49_11 Try.underlying35 rfl (by kernel_rfl)) rfl ?_
       exact ⟨_, z49_3, su (Kd.S_mono (Kd.S_far (p := ⟨gb1022, 0, none⟩) (Kd.S_types HO_1026000.out BK1022.out (by decide)) (fun _ hk => hk.2) (.slice Ao40 x1026000_2.length co40)) (fun _ hk => trivial)), z49_8⟩

end Go.Proofs.Ytefkbmhkhpekjaa.PB

namespace Go.Proofs.Ytefkbmhkhpekjaa.PB
open Go.RowKit Go.Proofs.YtefkbmhkhpekjaaW.PrintWords Go.Proofs.YtefkbmhkhpekjaaW.PrintLast Go.Proofs.YtefkbmhkhpekjaaW.PrintMore
attribute [local go_sem] max2_int min2_int max_two min_two max_three min_three max_four min_four   -- for this text's walks alone
open Go.Proofs.YtefkbmhkhpekjaaMine
set_option linter.unusedVariables false
set_option linter.unusedSimpArgs false

/-! ### laws_FnTurnOk: function 12 -/
def laws_FnTurnOk.Facts (k : Nat) (l0 : List Int) (p q x y : List (List S85)) (row : List Int) (ok fine : Bool) : Prop := spec_DrawTurnThreads.f k l0 = some (p, row) ∧ impl_TurnThreads.f k p row = some (q, ok) ∧ impl_TurnPlaces.f k p [2, 0, 1] = some (x, fine) ∧ spec_TurnThreads.f k p row = some (y, ok) ∧ (ok = true → impl_ProgOk.f k q = some true) ∧ spec_ProgOk.f k p = some fine ∧ (fine = true → impl_ProgOk.f k x = some true)
set_option maxRecDepth 100000 in
set_option maxHeartbeats 8000000 in
theorem laws_FnTurnOk.calls (k : Nat) (A0 : Option Addr) (c0 : Nat) (l0 : List Int) (w : World) (p q x y : List (List S85)) (row : List Int) (ok fine : Bool) (hr0 : Kd.C (Kd.int .u8) w A0 l0.length l0) (hc0 : l0.length ≤ c0) (h : (l0.length : Int) > 1048576 ∨ laws_FnTurnOk.Facts k l0 p q x y row ok fine) :
  Calls Try.prog 12 #[.slice A0 l0.length c0] w fun e w' => e = .returned (.bool true) ∧ Below w.heap.size w w' := by
 have C0 := am_ hr0
 have L0 := am_ hc0
 clear hr0 hc0
 by_cases hl : (l0.length : Int) > 1048576
 ·have hlb : decide (1048576 < (l0.length : Int)) = true := decide_eq_true hl
  clear h
  go_enter Try.func12, Try.ntmps12
  go_wp2_with fail
  refine bodyPost_ret (results_tmp rfl _ _ _) rfl ?_
  exact ⟨rfl, Below.refl _ _⟩
 have hlb : decide (1048576 < (l0.length : Int)) = false := decide_eq_false hl
 replace h := h.resolve_left hl
 unfold laws_FnTurnOk.Facts at h
 obtain ⟨h1, h2, h3, h4, h5, h6, h7⟩ := h
 have F1 := am_ h1
 have F2 := am_ h2
 have F3 := am_ h3
 have F4 := am_ h4
 have F5 := am_ h5
 have F6 := am_ h6
 have F7 := am_ h7
 clear h1 h2 h3 h4 h5 h6 h7
 go_enter Try.func12, Try.ntmps12
 go_wp2_with (go_at_call 46; refine park ?_)
 refine ⟨?_⟩
 refine (spec_DrawTurnThreads.calls k _ _ l0 p row _ C0.out L0.out F1.out).mono ?_
 rintro e w1 ⟨vp, vr, rfl, hN, hR, hb⟩
 obtain ⟨Ap, cp, rfl⟩ := Kd.N_slice hN
 obtain ⟨Ar, cr, rfl⟩ := Kd.R_slice hR
 have CPa := am_ (Kd.N_reads' hN).2.2
 have LP := am_ (Kd.N_reads' hN).2.1
 have CRa := am_ (Kd.R_reads' hR).2.2
 have LR := am_ (Kd.R_reads' hR).2.1
 have HBa := am_ hb
 clear hN hR hb
 have hc3 : (w1.alloc (Obj.cells #[.slice Ap p.length cp] 35)).cell? ⟨w1.heap.size, 0, none⟩ = some (.slice Ap p.length cp) := (blk_cell (heap_alloc_new w1 _) 0).trans rfl
 go_wp2_with (go_at_call 47; refine park ?_)
 clear hc3
 refine ⟨?_⟩
 have BPb := am_ (heap_alloc_new w1 (Obj.cells #[.slice Ap p.length cp] 35))
 have hb := below_alloc (Below.refl w1.heap.size w1) (Obj.cells #[.slice Ap p.length cp] 35)
 have CPb := am_ (Kd.C_below CPa.out hb)
 have CRb := am_ (Kd.C_below CRa.out hb)
 have HBb := am_ (below_then HBa.out HBa.out.size hb)
 clear CPa CRa HBa hb
 refine (impl_TurnThreads.calls k _ _ p _ _ row q ok _ CPb.out LP.out CRb.out LR.out F2.out).mono ?_
 rintro e w2 ⟨vq, rfl, hS, hb⟩
 obtain ⟨Aq, cq, rfl⟩ := Kd.S_slice hS
 have CQc := am_ (Kd.S_reads' hS).2.2
 have LQ := am_ (Kd.S_reads' hS).2.1
 have CPc := am_ (Kd.C_below CPb.out hb)
 have CRc := am_ (Kd.C_below CRb.out hb)
 have BPc := am_ (blk_below BPb.out hb)
 have HBc := am_ (below_then HBb.out HBb.out.size hb)
 clear CPb CRb BPb HBb
 generalize w1.heap.size = gp at *
 clear hS hb
 have BQd := am_ (heap_alloc_new w2 (Obj.cells #[.slice Aq q.length cq] 35))
 have hb := below_alloc (Below.refl w2.heap.size w2) (Obj.cells #[.slice Aq q.length cq] 35)
 have CPd := am_ (Kd.C_below CPc.out hb)
 have CRd := am_ (Kd.C_below CRc.out hb)
 have CQd := am_ (Kd.C_below CQc.out hb)
 have BPd := am_ (blk_below BPc.out hb)
 have HBd := am_ (below_then HBc.out HBc.out.size hb)
 clear CPc CRc CQc BPc HBc hb
 have hcp : (w2.alloc (Obj.cells #[.slice Aq q.length cq] 35)).cell? ⟨gp, 0, none⟩ = some (.slice Ap p.length cp) := (blk_cell BPd.out 0).trans rfl
 go_wp2_with (go_at_call 48; refine park ?_)
 clear hcp
 refine ⟨?_⟩
 have eq3 : (w2.alloc (Obj.cells #[.slice Aq q.length cq] 35)).heap.size = w2.heap.size + 1 := World.size_alloc _ _
 generalize w2.heap.size = gq at *
 generalize (w2.alloc (Obj.cells #[.slice Aq q.length cq] 35)) = w3 at *
 have hbi := heap_alloc_new w3 (Obj.cells #[.int .i64 2, .int .i64 0, .int .i64 1] 3)
 rw [eq3] at hbi
 have hi := int_C [2, 0, 1] hbi rfl (by decide)
 clear hbi
 have hb := below_alloc (Below.refl w3.heap.size w3) (Obj.cells #[.int .i64 2, .int .i64 0, .int .i64 1] 3)
 have CPe := am_ (Kd.C_below CPd.out hb)
 have CRe := am_ (Kd.C_below CRd.out hb)
 have CQe := am_ (Kd.C_below CQd.out hb)
 have BPe := am_ (blk_below BPd.out hb)
 have BQe := am_ (blk_below BQd.out hb)
 have HBe := am_ (below_then HBd.out HBd.out.size hb)
 clear CPd CRd CQd BPd BQd HBd hb
 refine (impl_TurnPlaces.calls k _ _ p _ _ [2, 0, 1] x fine _ CPe.out LP.out hi (Nat.le_refl 3) F3.out).mono ?_
 rintro e w4 ⟨vx, rfl, hS, hb⟩
 obtain ⟨Ax, cx, rfl⟩ := Kd.S_slice hS
 have CXf := am_ (Kd.S_reads' hS).2.2
 have LX := am_ (Kd.S_reads' hS).2.1
 have CPf := am_ (Kd.C_below CPe.out hb)
 have CRf := am_ (Kd.C_below CRe.out hb)
 have CQf := am_ (Kd.C_below CQe.out hb)
 have BPf := am_ (blk_below BPe.out hb)
 have BQf := am_ (blk_below BQe.out hb)
 have HBf := am_ (below_then HBe.out HBe.out.size hb)
 clear CPe CRe CQe BPe BQe HBe hS hb hi
 have BXg := am_ (heap_alloc_new w4 (Obj.cells #[.slice Ax x.length cx] 35))
 have hb := below_alloc (Below.refl w4.heap.size w4) (Obj.cells #[.slice Ax x.length cx] 35)
 have CPg := am_ (Kd.C_below CPf.out hb)
 have CRg := am_ (Kd.C_below CRf.out hb)
 have CQg := am_ (Kd.C_below CQf.out hb)
 have CXg := am_ (Kd.C_below CXf.out hb)
 have BPg := am_ (blk_below BPf.out hb)
 have BQg := am_ (blk_below BQf.out hb)
 have HBg := am_ (below_then HBf.out HBf.out.size hb)
 clear CPf CRf CQf CXf BPf BQf HBf hb
 have hcp : (w4.alloc (Obj.cells #[.slice Ax x.length cx] 35)).cell? ⟨gp, 0, none⟩ = some (.slice Ap p.length cp) := (blk_cell BPg.out 0).trans rfl
 go_wp2_with (go_at_call 49; refine park ?_)
 clear hcp
 refine ⟨?_⟩
 generalize w4.heap.size = gx at *
 generalize (w4.alloc (Obj.cells #[.slice Ax x.length cx] 35)) = w5 at *
 refine (spec_TurnThreads.calls k _ _ p _ _ row y ok _ CPg.out LP.out CRg.out LR.out F4.out).mono ?_
 rintro e w6 ⟨vy, rfl, hS, hb⟩
 obtain ⟨Ay, cy, rfl⟩ := Kd.S_slice hS
 have CPh := am_ (Kd.C_below CPg.out hb)
 have CRh := am_ (Kd.C_below CRg.out hb)
 have CQh := am_ (Kd.C_below CQg.out hb)
 have CXh := am_ (Kd.C_below CXg.out hb)
 have BPh := am_ (blk_below BPg.out hb)
 have BQh := am_ (blk_below BQg.out hb)
 have BXh := am_ (blk_below BXg.out hb)
 have HBh := am_ (below_then HBg.out HBg.out.size hb)
 clear CPg CRg CQg CXg BPg BQg BXg HBg hS hb
 have hb := below_alloc (Below.refl w6.heap.size w6) (Obj.cells #[.slice Ay y.length cy] 35)
 have CPi := am_ (Kd.C_below CPh.out hb)
 have CRi := am_ (Kd.C_below CRh.out hb)
 have CQi := am_ (Kd.C_below CQh.out hb)
 have CXi := am_ (Kd.C_below CXh.out hb)
 have BPi := am_ (blk_below BPh.out hb)
 have BQi := am_ (blk_below BQh.out hb)
 have BXi := am_ (blk_below BXh.out hb)
 have HBi := am_ (below_then HBh.out HBh.out.size hb)
 clear CPh CRh CQh CXh BPh BQh BXh HBh hb
 have hcp : (w6.alloc (Obj.cells #[.slice Ay y.length cy] 35)).cell? ⟨gp, 0, none⟩ = some (.slice Ap p.length cp) := (blk_cell BPi.out 0).trans rfl
 have hcq : (w6.alloc (Obj.cells #[.slice Ay y.length cy] 35)).cell? ⟨gq, 0, none⟩ = some (.slice Aq q.length cq) := (blk_cell BQi.out 0).trans rfl
 have hcx : (w6.alloc (Obj.cells #[.slice Ay y.length cy] 35)).cell? ⟨gx, 0, none⟩ = some (.slice Ax x.length cx) := (blk_cell BXi.out 0).trans rfl
 cases ok
 ·clear CRi
  cases fine
  ·go_wp2_with (go_at_call 43; refine park ?_)
   refine ⟨?_⟩
   refine (spec_ProgOk.calls k _ _ p false _ CPi.out LP.out F6.out).mono ?_
   rintro e z2 ⟨rfl, hb⟩
   have CPy := am_ (Kd.C_below CPi.out hb)
   have CQy := am_ (Kd.C_below CQi.out hb)
   have CXy := am_ (Kd.C_below CXi.out hb)
   have BPy := am_ (blk_below BPi.out hb)
   have BQy := am_ (blk_below BQi.out hb)
   have BXy := am_ (blk_below BXi.out hb)
   have HBy := am_ (below_then HBi.out HBi.out.size hb)
   clear CPi CQi CXi BPi BQi BXi HBi hb
   have hcx2 : z2.cell? ⟨gx, 0, none⟩ = some (.slice Ax x.length cx) := (blk_cell BXy.out 0).trans rfl
   have HBz := HBy
   go_wp2_with fail
   refine bodyPost_ret (results_tmp rfl _ _ _) rfl ?_
   exact ⟨rfl, HBz.out⟩
  ·go_wp2_with (go_at_call 43; refine park ?_)
   refine ⟨?_⟩
   refine (spec_ProgOk.calls k _ _ p true _ CPi.out LP.out F6.out).mono ?_
   rintro e z2 ⟨rfl, hb⟩
   have CPy := am_ (Kd.C_below CPi.out hb)
   have CQy := am_ (Kd.C_below CQi.out hb)
   have CXy := am_ (Kd.C_below CXi.out hb)
   have BPy := am_ (blk_below BPi.out hb)
   have BQy := am_ (blk_below BQi.out hb)
   have BXy := am_ (blk_below BXi.out hb)
   have HBy := am_ (below_then HBi.out HBi.out.size hb)
   clear CPi CQi CXi BPi BQi BXi HBi hb
   have hcx2 : z2.cell? ⟨gx, 0, none⟩ = some (.slice Ax x.length cx) := (blk_cell BXy.out 0).trans rfl
   go_wp2_with (go_at_call 31; refine park ?_)
   refine ⟨?_⟩
   refine (impl_ProgOk.calls k _ _ x true _ CXy.out LX.out (F7.out (by simp))).mono ?_
   rintro e z3 ⟨rfl, hb⟩
   have HBz := am_ (below_then HBy.out HBy.out.size hb)
   clear hb
   go_wp2_with fail
   refine bodyPost_ret (results_tmp rfl _ _ _) rfl ?_
   exact ⟨rfl, HBz.out⟩
 ·clear CRi
  go_wp2_with (go_at_call 31; refine park ?_)
  refine ⟨?_⟩
  refine (impl_ProgOk.calls k _ _ q true _ CQi.out LQ.out (F5.out (by simp))).mono ?_
  rintro e z1 ⟨rfl, hb⟩
  have CPx := am_ (Kd.C_below CPi.out hb)
  have CQx := am_ (Kd.C_below CQi.out hb)
  have CXx := am_ (Kd.C_below CXi.out hb)
  have BPx := am_ (blk_below BPi.out hb)
  have BQx := am_ (blk_below BQi.out hb)
  have BXx := am_ (blk_below BXi.out hb)
  have HBx := am_ (below_then HBi.out HBi.out.size hb)
  clear CPi CQi CXi BPi BQi BXi HBi hb hcp hcq hcx
  have hcp : z1.cell? ⟨gp, 0, none⟩ = some (.slice Ap p.length cp) := (blk_cell BPx.out 0).trans rfl
  have hcx : z1.cell? ⟨gx, 0, none⟩ = some (.slice Ax x.length cx) := (blk_cell BXx.out 0).trans rfl
  cases fine
  ·go_wp2_with (go_at_call 43; refine park ?_)
   refine ⟨?_⟩
   refine (spec_ProgOk.calls k _ _ p false _ CPx.out LP.out F6.out).mono ?_
   rintro e z2 ⟨rfl, hb⟩
   have CPy := am_ (Kd.C_below CPx.out hb)
   have CQy := am_ (Kd.C_below CQx.out hb)
   have CXy := am_ (Kd.C_below CXx.out hb)
   have BPy := am_ (blk_below BPx.out hb)
   have BQy := am_ (blk_below BQx.out hb)
   have BXy := am_ (blk_below BXx.out hb)
   have HBy := am_ (below_then HBx.out HBx.out.size hb)
   clear CPx CQx CXx BPx BQx BXx HBx hb
   have hcx2 : z2.cell? ⟨gx, 0, none⟩ = some (.slice Ax x.length cx) := (blk_cell BXy.out 0).trans rfl
   have HBz := HBy
   go_wp2_with fail
   refine bodyPost_ret (results_tmp rfl _ _ _) rfl ?_
   exact ⟨rfl, HBz.out⟩
  ·go_wp2_with (go_at_call 43; refine park ?_)
   refine ⟨?_⟩
   refine (spec_ProgOk.calls k _ _ p true _ CPx.out LP.out F6.out).mono ?_
   rintro e z2 ⟨rfl, hb⟩
   have CPy := am_ (Kd.C_below CPx.out hb)
   have CQy := am_ (Kd.C_below CQx.out hb)
   have CXy := am_ (Kd.C_below CXx.out hb)
   have BPy := am_ (blk_below BPx.out hb)
   have BQy := am_ (blk_below BQx.out hb)
   have BXy := am_ (blk_below BXx.out hb)
   have HBy := am_ (below_then HBx.out HBx.out.size hb)
   clear CPx CQx CXx BPx BQx BXx HBx hb
   have hcx2 : z2.cell? ⟨gx, 0, none⟩ = some (.slice Ax x.length cx) := (blk_cell BXy.out 0).trans rfl
   go_wp2_with (go_at_call 31; refine park ?_)
   refine ⟨?_⟩
   refine (impl_ProgOk.calls k _ _ x true _ CXy.out LX.out (F7.out (by simp))).mono ?_
   rintro e z3 ⟨rfl, hb⟩
   have HBz := am_ (below_then HBy.out HBy.out.size hb)
   clear hb
   go_wp2_with fail
   refine bodyPost_ret (results_tmp rfl _ _ _) rfl ?_
   exact ⟨rfl, HBz.out⟩
def laws_FnTurnOk.Pure : Prop := ∀ (l0 : List Int), l0.length ≤ maxLen → l0.length * 1 ≤ 140737488351232 → (∀ x ∈ l0, (Lit.int .u8 x).wf = true) → ∃ k p q x y row ok fine, (l0.length : Int) > 1048576 ∨ laws_FnTurnOk.Facts k l0 p q x y row ok fine
theorem laws_FnTurnOk.walk (P : laws_FnTurnOk.Pure) (a0 : Option Addr) (len0 cap0 : Nat) (z0 : List Int) (w : World) (w0 : (a0 = none ∧ len0 = 0 ∧ cap0 = 0 ∧ z0 = []) ∨ ∃ x, a0 = some x ∧ len0 ≤ cap0 ∧ cap0 ≤ maxLen ∧ z0.length = cap0 ∧ (∀ i, i < z0.length → w.cell? (x.add i) = some (.int .u8 (z0.getD i 0))) ∧ ∀ n ∈ z0, (Lit.int .u8 n).wf = true) (y0 : len0 * 1 ≤ 140737488351232) :
  Calls Try.prog 12 #[.slice a0 len0 cap0] w fun e w' => e = .returned (.bool true) ∧ Below w.heap.size w w' := by
 obtain ⟨l0, rfl, hr0, hm0, hw0, hc0⟩ := ReadsInt.ofRowC w0
 obtain ⟨k, p, q, x, y, row, ok, fine, h⟩ := P l0 hm0 y0 hw0
 refine (laws_FnTurnOk.calls k _ _ l0 w p q x y row ok fine (Kd.C_of_reads (d := (0 : Int)) (h1 := fun _ => rfl) hr0) hc0 h).mono ?_
 rintro e w' ⟨rfl, hd⟩
 exact ⟨rfl, hd⟩


end Go.Proofs.Ytefkbmhkhpekjaa.PB

-- Joined by wip/mclaim.py out of YtefkbmhkhpekjaaPBx92, YtefkbmhkhpekjaaPBx101, YtefkbmhkhpekjaaPBx96, YtefkbmhkhpekjaaPBx57, YtefkbmhkhpekjaaPBx100, YtefkbmhkhpekjaaPBx58, YtefkbmhkhpekjaaPBx16
import Derived.Test.YtefkbmhkhpekjaaPBx0
import Derived.Test.YtefkbmhkhpekjaaJFnTurnPlacesx2
import Derived.Test.YtefkbmhkhpekjaaJFnTurnPlacesyPBx123
import Derived.Test.YtefkbmhkhpekjaaJFnTurnPlacesyPBx124
import Derived.Test.YtefkbmhkhpekjaaJFnTurnPlacesx1
import Derived.Test.YtefkbmhkhpekjaaPBx30
namespace Go.Proofs.Ytefkbmhkhpekjaa.PB
open Go.RowKit Go.Proofs.YtefkbmhkhpekjaaW.PrintWords Go.Proofs.YtefkbmhkhpekjaaW.PrintLast Go.Proofs.YtefkbmhkhpekjaaW.PrintMore
attribute [local go_sem] max2_int min2_int max_two min_two max_three min_three max_four min_four   -- for this text's walks alone
open Go.Proofs.YtefkbmhkhpekjaaMine
set_option linter.unusedVariables false
set_option linter.unusedSimpArgs false

theorem z92_1 {p : Prop} (h : p := by first | rfl | (simp [errW_none, errW_some] <;> rfl) | (simp [*, errW_none, errW_some] <;> rfl)) : p := h
theorem z92_2 {p : Prop} (h : p := by repeat (first | (with_reducible first | exact HK.out | apply KeepBut.set_ | apply keep_drewN | apply keep_drew | apply keep_alloc) | exact HK.out)) : p := h
theorem z92_3 {p : Prop} (h : p := by repeat (first | (with_reducible first | exact HI0.out | apply IsS116.alloc | apply IsS116.drewN | apply IsS116.drew | apply IsS116.set_1) | exact HI0.out)) : p := h
theorem z92_4 {p : Prop} (h : p := by repeat (first | (with_reducible first | exact HB.out | apply below_alloc | apply pw_below_drewN | apply below_drew1 | refine below_set ?_ (IsS116.ge HI0.out)) | exact HB.out)) : p := h
theorem z92_5 {p : Prop} (h : p := by repeat (first | (with_reducible first | exact HK.out | apply KeepBut.set_ | apply keep_drewN | apply keep_drew | apply keep_alloc | refine keep_far ?_ GW837.out _) | exact HK.out)) : p := h
theorem z92_6 {p : Prop} (h : p := by repeat (first | (with_reducible first | exact HI0.out | apply IsS116.alloc | apply IsS116.drewN | apply IsS116.drew | apply IsS116.set_1 | refine IsS116.far ?_ NB0_837.out _) | exact HI0.out)) : p := h
theorem z92_7 {p : Prop} (h : p := by repeat (first | (with_reducible first | exact HB.out | apply below_alloc | apply pw_below_drewN | apply below_drew1 | refine below_set ?_ (IsS116.ge HI0.out) | refine below_set ?_ GE837.out) | exact HB.out)) : p := h
theorem z92_8 {p : Prop} (h : p := by repeat (first | (with_reducible first | exact HK.out | apply KeepBut.set_ | apply keep_drewN | apply keep_drew | apply keep_alloc | refine keep_far ?_ GW837.out _ | refine keep_far ?_ GW842.out _) | exact HK.out)) : p := h
theorem z92_9 {p : Prop} (h : p := by repeat (first | (with_reducible first | exact HI0.out | apply IsS116.alloc | apply IsS116.drewN | apply IsS116.drew | apply IsS116.set_1 | refine IsS116.far ?_ NB0_837.out _ | refine IsS116.far ?_ NB0_842.out _) | exact HI0.out)) : p := h
theorem z92_10 {p : Prop} (h : p := by repeat (first | (with_reducible first | exact HB.out | apply below_alloc | apply pw_below_drewN | apply below_drew1 | refine below_set ?_ (IsS116.ge HI0.out) | refine below_set ?_ GE837.out | refine below_set ?_ GE842.out) | exact HB.out)) : p := h
theorem z92_11 {p : Prop} (h : p := by (with_reducible repeat (first | refine blk_drewN ?_ _ | refine blk_drew ?_ | refine blk_alloc ?_ _)); refine blk_far ?_ NB837_842.out _; (with_reducible repeat (first | refine blk_drewN ?_ _ | refine blk_drew ?_ | refine blk_alloc ?_ _)); exact BK837.out) : p := h
theorem z92_12 {p : Prop} (h : p := by (with_reducible repeat (first | refine blk_drewN ?_ _ | refine blk_drew ?_ | refine blk_alloc ?_ _)); refine blk_put (cs := #[.slice none 0 0]) ?_ 0 _ rfl; (with_reducible repeat (first | refine blk_drewN ?_ _ | refine blk_drew ?_ | refine blk_alloc ?_ _)); exact BK842.out) : p := h
theorem z92_13 {p : Prop} (h : p := by (with_reducible repeat (first | refine blk_drewN ?_ _ | refine blk_drew ?_ | refine blk_alloc ?_ _)); refine blk_put (cs := #[.slice none 0 0]) ?_ 0 _ rfl; (with_reducible repeat (first | refine blk_drewN ?_ _ | refine blk_drew ?_ | refine blk_alloc ?_ _)); exact BK837.out) : p := h
/-! ### spec_l71Any: function 92 -/
def spec_l71Any.f (k : Nat) (s0_0 : List Int) (s0_1 : Int) : Option ((List (List (S85))) × Int) := (spec_l71Prog.f k s0_0 s0_1).bind fun bt838 => ((spec_l6Rd_pick.f k s0_0 bt838.2 16).bind fun bt843 => (if bt843.1 = 0 then ((spec_l71Bad.f k s0_0 bt843.2 bt838.1).bind fun bt845 => (some (bt845.1, bt845.2))) else (some (bt838.1, bt843.2))))
theorem spec_l71Any.mono : ∀ a0 a1 k, LeO (spec_l71Any.f k a0 a1) (spec_l71Any.f (k + 1) a0 a1) := by
  intro a0 a1 k
  unfold spec_l71Any.f
  repeat' first
      | (with_reducible exact spec_l6Rd_pick.mono _ _ _ _)
      | (with_reducible exact spec_l71Bad.mono _ _ _ _)
      | (with_reducible exact spec_l71Prog.mono _ _ _)
      | (with_reducible exact LeO.refl _)
      | (with_reducible exact LeO.none _)
      | (with_reducible refine LeO.ite ?_ ?_)
      | (with_reducible refine LeO.bind ?_ (fun _ => ?_))
      | exact spec_l6Rd_pick.mono _ _ _ _
      | exact spec_l71Bad.mono _ _ _ _
      | exact spec_l71Prog.mono _ _ _
      | exact LeO.none _
      | refine LeO.ite ?_ ?_
      | refine LeO.bind ?_ (fun _ => ?_)
set_option maxHeartbeats 8000000 in
set_option maxRecDepth 100000 in
theorem spec_l71Any.calls (k : Nat) (g : Nat) (s0_0 : List Int) (s0_1 : Int) (r1 : List (List (S85))) (r2 : Int) (w0 w : World) (hI : IsS116 w0 w g s0_0 s0_1) (hB : Below w0.heap.size w0 w) (h : spec_l71Any.f k s0_0 s0_1 = some (r1, r2)) :
  Calls Try.prog 92 #[.pointer (some ⟨g, 0, none⟩)] w fun e w' => ∃ v0_ : Value, e = .returned (.agg #[v0_]) ∧ Kd.N (Kd.slice 85 k85) 82 w' w.heap.size (fun k_ => (w.heap.size ≤ k_)) v0_ r1 ∧ IsS116 w0 w' g s0_0 r2 ∧ Below w0.heap.size w0 w' ∧ KeepBut w w' g none := by
 have hu35 := Try.underlying35
 have HI0 := am_ hI
 have HK := am_ (KeepBut.refl w g none)
 have HL := am_ hB.size
 clear hI
 have HW0 := am_ hB.size
 have HB := am_ hB
 clear hB
 have H : ((spec_l71Prog.f k s0_0 s0_1).bind fun bt838 => ((spec_l6Rd_pick.f k s0_0 bt838.2 16).bind fun bt843 => (if bt843.1 = 0 then ((spec_l71Bad.f k s0_0 bt843.2 bt838.1).bind fun bt845 => (some (bt845.1, bt845.2))) else (some (bt838.1, bt843.2))))) = some (r1, r2) := h
 clear h
 replace H := Option.bind_eq_some_iff.mp H
 obtain ⟨⟨t838, t841⟩, A20, H⟩ := H
 replace H : ((spec_l6Rd_pick.f k s0_0 t841 16).bind fun bt843 => (if bt843.1 = 0 then ((spec_l71Bad.f k s0_0 bt843.2 t838).bind fun bt845 => (some (bt845.1, bt845.2))) else (some (t838, bt843.2)))) = some (r1, r2) := H
 have A2 := am_ A20
 clear A20
 replace H := Option.bind_eq_some_iff.mp H
 obtain ⟨⟨t843, t844⟩, A30, H⟩ := H
 replace H : (if t843 = 0 then ((spec_l71Bad.f k s0_0 t844 t838).bind fun bt845 => (some (bt845.1, bt845.2))) else (some (t838, t844))) = some (r1, r2) := H
 have A3 := am_ A30
 clear A30
 by_cases c4 : t843 = 0
 ·rw [if_pos c4] at H
  have c4b0 : (t843 == 0) = true := beq_iff_eq.mpr c4
  have c4b1 : (t843 != 0) = false := bne_eq_false_iff_eq.mpr c4
  clear c4
  replace H := Option.bind_eq_some_iff.mp H
  obtain ⟨⟨t845, t848⟩, A50, H⟩ := H
  replace H : (some (t845, t848)) = some (r1, r2) := H
  have A5 := am_ A50
  clear A50
  simp only [Option.some.injEq, Prod.mk.injEq] at H
  obtain ⟨rfl, rfl⟩ := H
  go_enter Try.func92, Try.ntmps92
  go_wp2_with (first | ((with_reducible refine gate_dst (N := 2) rfl ?_); refine box_event ?hg (N := 2) ?hd (cs := #[.slice none 0 0]) (t := 35) ?hr ?_; (case hd => rfl); (case hg => rfl); (case hr => first | (go_simp; done) | (go_simp; rfl)); intro gb837 hg w6 hbox hb; have n0_ := am_ (IsS116.below z92_3 hb); have n1_ := am_ (KeepBut.trans z92_2 (KeepBut.of_below hb g none) (.inl rfl)); have n2_ := am_ (below_step z92_4 hb); have n3_ := am_ (hbox); have n4_ := am_ (by rw [hg]; exact (keep_size (w := w) (g := g) (row := none) z92_2) : w.heap.size ≤ gb837); have n5_ := am_ (Nat.le_trans HW0.out (by rw [hg]; exact (keep_size (w := w) (g := g) (row := none) z92_2) : w.heap.size ≤ gb837) : w0.heap.size ≤ gb837); have n6_ := am_ (by rw [hg]; exact Nat.ne_of_lt (IsS116.lt (show IsS116 w0 _ g s0_0 s0_1 from by repeat (first | (with_reducible first | exact HI0.out | apply IsS116.alloc | apply IsS116.drewN | apply IsS116.drew | apply IsS116.set_1) | exact HI0.out))) : g ≠ gb837); have n7_ := am_ (by rw [hg]; exact Nat.ne_of_gt (IsS116.lt (show IsS116 w0 _ g s0_0 s0_1 from by repeat (first | (with_reducible first | exact HI0.out | apply IsS116.alloc | apply IsS116.drewN | apply IsS116.drew | apply IsS116.set_1) | exact HI0.out))) : gb837 ≠ g); clear HI0 HK HB; have HI0 := n0_; have HK := n1_; have HB := n2_; have BK837 := n3_; have GW837 := n4_; have GE837 := n5_; have NB0_837 := n6_; have NB837_0 := n7_; clear n0_ n1_ n2_ n3_ n4_ n5_ n6_ n7_; clear hb hbox hg) | ((with_reducible refine gate_callee (f := 123) rfl ?_); refine goesL_ (some 5) rfl rfl Try.func123 (by kernel_rfl) rfl #[.pointer (some ⟨g, 0, none⟩)] rfl (by (try simp only [List.map_toArray, List.map_cons, List.map_nil]); first | done | rfl | (simp only [List.length_drop, List.length_take]; rfl)) ?_; (with_reducible refine (spec_l71Prog.calls k g s0_0 s0_1 t838 t841 w0 _ ?side1 ?side2 A2.out).mono ?_); (case side1 => repeat (first | (with_reducible first | exact HI0.out | apply IsS116.alloc | apply IsS116.drewN | apply IsS116.drew | apply IsS116.set_1 | refine IsS116.far ?_ NB0_837.out _) | exact HI0.out)); (case side2 => repeat (first | (with_reducible first | exact HB.out | apply below_alloc | apply pw_below_drewN | apply below_drew1 | refine below_set ?_ (IsS116.ge HI0.out) | refine below_set ?_ GE837.out) | exact HB.out)); rintro e w7 ⟨v839, rfl, ho0, hi, hb, hk⟩; refine ⟨_, rfl, ?_⟩; have n0_ := am_ (KeepBut.blk hk (bu BK837.out) NB837_0.out (by simp)); have n1_ := am_ (Kd.N_lower (Kd.N_mono (ok' := fun k_ => (w.heap.size ≤ k_) ∧ k_ ≠ gb837 ∧ k_ ≠ g) (Kd.S_N (Kd.S_bound ho0)) (fun k_ hk_ => ⟨(Nat.le_trans (keep_size (w := w) (g := g) (row := none) z92_5) hk_.2.1), (Kd.freshB (bu BK837.out) k_ hk_.2.1), (IsS116.fresh z92_6 k_ hk_.2.1)⟩)) (keep_size (w := w) (g := g) (row := none) z92_5)); have n2_ := am_ (KeepBut.trans z92_5 hk (.inl rfl)); have n3_ := am_ (hb); have n4_ := am_ (hi); clear BK837 HK HB HI0; have BK837 := n0_; have HO840 := n1_; have HK := n2_; have HB := n3_; have HI0 := n4_; clear n0_ n1_ n2_ n3_ n4_; (try clear hb); (try clear hb2); (try clear hk); (try clear hi); (try clear ho0)) | ((with_reducible refine gate_dst (N := 3) rfl ?_); refine box_event ?hg (N := 3) ?hd (cs := #[.slice none 0 0]) (t := 35) ?hr ?_; (case hd => rfl); (case hg => rfl); (case hr => first | (go_simp; done) | (go_simp; rfl)); intro gb842 hg w8 hbox hb; have n0_ := am_ (Kd.N_below (Kd.N_elderB (nu HO840.out) gb842 (Nat.le_of_eq hg.symm)) hb); have n1_ := am_ (IsS116.below z92_6 hb); have n2_ := am_ (blk_below (bu BK837.out) hb); have n3_ := am_ (KeepBut.trans z92_5 (KeepBut.of_below hb g none) (.inl rfl)); have n4_ := am_ (below_step z92_7 hb); have n5_ := am_ (hbox); have n6_ := am_ (by rw [hg]; exact (keep_size (w := w) (g := g) (row := none) z92_5) : w.heap.size ≤ gb842); have n7_ := am_ (Nat.le_trans HW0.out (by rw [hg]; exact (keep_size (w := w) (g := g) (row := none) z92_5) : w.heap.size ≤ gb842) : w0.heap.size ≤ gb842); have n8_ := am_ (by rw [hg]; exact Nat.ne_of_lt (blk_lt (bu BK837.out)) : gb837 ≠ gb842); have n9_ := am_ (by rw [hg]; exact Nat.ne_of_gt (blk_lt (bu BK837.out)) : gb842 ≠ gb837); have n10_ := am_ (by rw [hg]; exact Nat.ne_of_lt (IsS116.lt (show IsS116 w0 _ g s0_0 t841 from by repeat (first | (with_reducible first | exact HI0.out | apply IsS116.alloc | apply IsS116.drewN | apply IsS116.drew | apply IsS116.set_1 | refine IsS116.far ?_ NB0_837.out _) | exact HI0.out))) : g ≠ gb842); have n11_ := am_ (by rw [hg]; exact Nat.ne_of_gt (IsS116.lt (show IsS116 w0 _ g s0_0 t841 from by repeat (first | (with_reducible first | exact HI0.out | apply IsS116.alloc | apply IsS116.drewN | apply IsS116.drew | apply IsS116.set_1 | refine IsS116.far ?_ NB0_837.out _) | exact HI0.out))) : gb842 ≠ g); clear HO840 HI0 BK837 HK HB; have HO840 := n0_; have HI0 := n1_; have BK837 := n2_; have HK := n3_; have HB := n4_; have BK842 := n5_; have GW842 := n6_; have GE842 := n7_; have NB837_842 := n8_; have NB842_837 := n9_; have NB0_842 := n10_; have NB842_0 := n11_; clear n0_ n1_ n2_ n3_ n4_ n5_ n6_ n7_ n8_ n9_ n10_ n11_; clear hb hbox hg; obtain ⟨Ao9, co9, eo9⟩ := Kd.N_slice HO840.out; subst eo9; have hnb10 := NB842_837.out; have hnc10 := NB837_842.out; have hnb11 := NB842_0.out; have hnc11 := NB0_842.out; have hcz12_0 : w8.cell? ⟨gb842, 0, none⟩ = some (.slice none 0 0) := (blk_cell BK842.out 0).trans rfl; have hfz12_0 := blk_frozen BK842.out 0) | ((with_reducible refine gate_callee (f := 71) rfl ?_); refine goesL_ (some 7) rfl rfl Try.func71 (by kernel_rfl) rfl #[.pointer (some ⟨g, 0, none⟩), .int .i64 16] rfl (by (try simp only [List.map_toArray, List.map_cons, List.map_nil]); first | done | rfl | (simp only [List.length_drop, List.length_take]; rfl)) ?_; (with_reducible refine (spec_l6Rd_pick.calls k g s0_0 t841 16 t843 t844 w0 _ ?side1 ?side2 A3.out).mono ?_); (case side1 => repeat (first | (with_reducible first | exact HI0.out | apply IsS116.alloc | apply IsS116.drewN | apply IsS116.drew | apply IsS116.set_1 | refine IsS116.far ?_ NB0_837.out _ | refine IsS116.far ?_ NB0_842.out _) | exact HI0.out)); (case side2 => repeat (first | (with_reducible first | exact HB.out | apply below_alloc | apply pw_below_drewN | apply below_drew1 | refine below_set ?_ (IsS116.ge HI0.out) | refine below_set ?_ GE837.out | refine below_set ?_ GE842.out) | exact HB.out)); rintro e w13 ⟨rfl, hi, hb, hk⟩; refine ⟨_, rfl, ?_⟩; have n0_ := am_ (KeepBut.blk hk (g' := gb837) (o := .cells #[.slice none 0 0] 35 (0, 0)) z92_11 NB837_0.out (by simp)); have n1_ := am_ (Kd.N_mono (Kd.N_keep (Kd.N_mono (ok := fun k_ => ((((w.heap.size ≤ k_)) ∧ (k_ ≠ gb837 ∧ k_ ≠ g)) ∧ k_ ≠ gb842)) (nu (Kd.N_mono (Kd.N_far (p := ⟨gb842, 0, none⟩) (Kd.N_mono HO840.out (fun k_ hk => (⟨hk, hk.2⟩ : _ ∧ k_ ≠ gb842))) (fun _ hk => hk.2) (.slice Ao9 t838.length co9)) (fun _ h_ => h_.1))) (fun k_ hk_ => (⟨hk_, hk_.1.2.2⟩ : _ ∧ k_ ≠ g))) hk (fun _ h => h.2)) (fun _ h => h.1)); have n2_ := am_ (KeepBut.blk hk (g' := gb842) (o := .cells #[.slice Ao9 t838.length co9] 35 (0, 0)) z92_12 NB842_0.out (by simp)); have n3_ := am_ (KeepBut.trans z92_8 hk (.inl rfl)); have n4_ := am_ (hb); have n5_ := am_ (hi); clear BK837 HO840 BK842 HK HB HI0; have BK837 := n0_; have HO840 := n1_; have BK842 := n2_; have HK := n3_; have HB := n4_; have HI0 := n5_; clear n0_ n1_ n2_ n3_ n4_ n5_; (try clear hb); (try clear hb2); (try clear hk); (try clear hi); have hcz14_0 : w13.cell? ⟨gb842, 0, none⟩ = some (.slice Ao9 t838.length co9) := (blk_cell BK842.out 0).trans rfl; have hfz14_0 := blk_frozen BK842.out 0) | ((with_reducible refine gate_callee (f := 124) rfl ?_); refine goesL_ (some 11) rfl rfl Try.func124 (by kernel_rfl) rfl #[.pointer (some ⟨g, 0, none⟩), .agg #[.slice Ao9 t838.length co9]] rfl (by (try simp only [List.map_toArray, List.map_cons, List.map_nil]); first | done | rfl | (simp only [List.length_drop, List.length_take]; rfl)) ?_; (with_reducible refine (spec_l71Bad.calls k g s0_0 t844 (fun k_ => (((w.heap.size ≤ k_) ∧ (k_ ≠ gb837 ∧ k_ ≠ g)) ∧ k_ ≠ gb842)) _ _ t838 t845 t848 w0 _ ?side1 ?side2 ?side3 A5.out).mono ?_); (case side1 => repeat (first | (with_reducible first | exact HI0.out | apply IsS116.alloc | apply IsS116.drewN | apply IsS116.drew | apply IsS116.set_1 | refine IsS116.far ?_ NB0_837.out _ | refine IsS116.far ?_ NB0_842.out _) | exact HI0.out)); (case side2 => repeat (first | (with_reducible first | exact HB.out | apply below_alloc | apply pw_below_drewN | apply below_drew1 | refine below_set ?_ (IsS116.ge HI0.out) | refine below_set ?_ GE837.out | refine below_set ?_ GE842.out) | exact HB.out)); (case side3 => exact Kd.V_mono (Kd.N_V (HO840.out)) (fun k_ hk_ => ⟨hk_, hk_.1.2.2⟩)); rintro e w15 ⟨v846, rfl, ho0, hi, hb, hk⟩; refine ⟨_, rfl, ?_⟩; have n0_ := am_ (KeepBut.blk hk (bu BK837.out) NB837_0.out (by simp)); have n1_ := am_ (Kd.N_mono (Kd.N_told (Kd.N_oldK (Kd.N_mono (ok := fun k_ => ((((w.heap.size ≤ k_)) ∧ (k_ ≠ gb837 ∧ k_ ≠ g)) ∧ k_ ≠ gb842)) (nu HO840.out) (fun k_ hk_ => (⟨hk_, hk_.1.2.2⟩ : _ ∧ k_ ≠ g))) hk) (by first | exact Kd.N_base ho0 | exact Kd.S_base ho0)) (fun _ h_ => h_.1)); have n2_ := am_ (KeepBut.blk hk (bu BK842.out) NB842_0.out (by simp)); have n3_ := am_ (Kd.N_lower (Kd.N_mono (ok' := fun k_ => (w.heap.size ≤ k_) ∧ k_ ≠ gb837 ∧ k_ ≠ gb842 ∧ k_ ≠ g) ho0 (fun k_ hk_ => ⟨Or.elim hk_ (fun hs_ => hs_.1.1) (fun hn_ => (Nat.le_trans (keep_size (w := w) (g := g) (row := none) z92_8) hn_)), Or.elim hk_ (fun hs_ => hs_.1.2.1) (fun hn_ => (Kd.freshB (bu BK837.out) k_ hn_)), Or.elim hk_ (fun hs_ => hs_.2) (fun hn_ => (Kd.freshB (bu BK842.out) k_ hn_)), Or.elim hk_ (fun hs_ => hs_.1.2.2) (fun hn_ => (IsS116.fresh z92_9 k_ hn_))⟩)) (keep_size (w := w) (g := g) (row := none) z92_8)); have n4_ := am_ (KeepBut.trans z92_8 hk (.inl rfl)); have n5_ := am_ (hb); have n6_ := am_ (hi); clear BK837 HO840 BK842 HK HB HI0; have BK837 := n0_; have HO840 := n1_; have BK842 := n2_; have HO847 := n3_; have HK := n4_; have HB := n5_; have HI0 := n6_; clear n0_ n1_ n2_ n3_ n4_ n5_ n6_; (try clear hb); (try clear hb2); (try clear hk); (try clear hi); (try clear ho0); obtain ⟨Ao16, co16, eo16⟩ := Kd.N_slice HO847.out; subst eo16; have hnb17 := NB837_0.out; have hnc17 := NB0_837.out; have hcz18_0 : w15.cell? ⟨gb837, 0, none⟩ = some (.slice none 0 0) := (blk_cell BK837.out 0).trans rfl; have hfz18_0 := blk_frozen BK837.out 0))
  refine bodyPost_ret (results_cell_row rfl _ _ gb837 35 #[.slice Ao16 t845.length co16] (0, 0) _ rfl z92_13 Try.underlying35 rfl (by kernel_rfl)) rfl ?_
  exact ⟨_, z92_1, nu (Kd.N_mono (Kd.N_far (p := ⟨gb837, 0, none⟩) (Kd.N_mono HO847.out (fun k_ hk => (⟨hk, hk.2.1⟩ : _ ∧ k_ ≠ gb837))) (fun _ hk => hk.2) (.slice Ao16 t845.length co16)) (fun _ hk => hk.1.1)), z92_9, z92_10, z92_8⟩
 ·rw [if_neg c4] at H
  have c4b0 : (t843 == 0) = false := beq_eq_false_iff_ne.mpr c4
  have c4b1 : (t843 != 0) = true := bne_iff_ne.mpr c4
  simp only [Option.some.injEq, Prod.mk.injEq] at H
  obtain ⟨rfl, rfl⟩ := H
  go_enter Try.func92, Try.ntmps92
  go_wp2_with (first | ((with_reducible refine gate_dst (N := 2) rfl ?_); refine box_event ?hg (N := 2) ?hd (cs := #[.slice none 0 0]) (t := 35) ?hr ?_; (case hd => rfl); (case hg => rfl); (case hr => first | (go_simp; done) | (go_simp; rfl)); intro gb837 hg w19 hbox hb; have n0_ := am_ (IsS116.below z92_3 hb); have n1_ := am_ (KeepBut.trans z92_2 (KeepBut.of_below hb g none) (.inl rfl)); have n2_ := am_ (below_step z92_4 hb); have n3_ := am_ (hbox); have n4_ := am_ (by rw [hg]; exact (keep_size (w := w) (g := g) (row := none) z92_2) : w.heap.size ≤ gb837); have n5_ := am_ (Nat.le_trans HW0.out (by rw [hg]; exact (keep_size (w := w) (g := g) (row := none) z92_2) : w.heap.size ≤ gb837) : w0.heap.size ≤ gb837); have n6_ := am_ (by rw [hg]; exact Nat.ne_of_lt (IsS116.lt (show IsS116 w0 _ g s0_0 s0_1 from by repeat (first | (with_reducible first | exact HI0.out | apply IsS116.alloc | apply IsS116.drewN | apply IsS116.drew | apply IsS116.set_1) | exact HI0.out))) : g ≠ gb837); have n7_ := am_ (by rw [hg]; exact Nat.ne_of_gt (IsS116.lt (show IsS116 w0 _ g s0_0 s0_1 from by repeat (first | (with_reducible first | exact HI0.out | apply IsS116.alloc | apply IsS116.drewN | apply IsS116.drew | apply IsS116.set_1) | exact HI0.out))) : gb837 ≠ g); clear HI0 HK HB; have HI0 := n0_; have HK := n1_; have HB := n2_; have BK837 := n3_; have GW837 := n4_; have GE837 := n5_; have NB0_837 := n6_; have NB837_0 := n7_; clear n0_ n1_ n2_ n3_ n4_ n5_ n6_ n7_; clear hb hbox hg) | ((with_reducible refine gate_callee (f := 123) rfl ?_); refine goesL_ (some 5) rfl rfl Try.func123 (by kernel_rfl) rfl #[.pointer (some ⟨g, 0, none⟩)] rfl (by (try simp only [List.map_toArray, List.map_cons, List.map_nil]); first | done | rfl | (simp only [List.length_drop, List.length_take]; rfl)) ?_; (with_reducible refine (spec_l71Prog.calls k g s0_0 s0_1 t838 t841 w0 _ ?side1 ?side2 A2.out).mono ?_); (case side1 => repeat (first | (with_reducible first | exact HI0.out | apply IsS116.alloc | apply IsS116.drewN | apply IsS116.drew | apply IsS116.set_1 | refine IsS116.far ?_ NB0_837.out _) | exact HI0.out)); (case side2 => repeat (first | (with_reducible first | exact HB.out | apply below_alloc | apply pw_below_drewN | apply below_drew1 | refine below_set ?_ (IsS116.ge HI0.out) | refine below_set ?_ GE837.out) | exact HB.out)); rintro e w20 ⟨v839, rfl, ho0, hi, hb, hk⟩; refine ⟨_, rfl, ?_⟩; have n0_ := am_ (KeepBut.blk hk (bu BK837.out) NB837_0.out (by simp)); have n1_ := am_ (Kd.N_lower (Kd.N_mono (ok' := fun k_ => (w.heap.size ≤ k_) ∧ k_ ≠ gb837 ∧ k_ ≠ g) (Kd.S_N (Kd.S_bound ho0)) (fun k_ hk_ => ⟨(Nat.le_trans (keep_size (w := w) (g := g) (row := none) z92_5) hk_.2.1), (Kd.freshB (bu BK837.out) k_ hk_.2.1), (IsS116.fresh z92_6 k_ hk_.2.1)⟩)) (keep_size (w := w) (g := g) (row := none) z92_5)); have n2_ := am_ (KeepBut.trans z92_5 hk (.inl rfl)); have n3_ := am_ (hb); have n4_ := am_ (hi); clear BK837 HK HB HI0; have BK837 := n0_; have HO840 := n1_; have HK := n2_; have HB := n3_; have HI0 := n4_; clear n0_ n1_ n2_ n3_ n4_; (try clear hb); (try clear hb2); (try clear hk); (try clear hi); (try clear ho0)) | ((with_reducible refine gate_dst (N := 3) rfl ?_); refine box_event ?hg (N := 3) ?hd (cs := #[.slice none 0 0]) (t := 35) ?hr ?_; (case hd => rfl); (case hg => rfl); (case hr => first | (go_simp; done) | (go_simp; rfl)); intro gb842 hg w21 hbox hb; have n0_ := am_ (Kd.N_below (Kd.N_elderB (nu HO840.out) gb842 (Nat.le_of_eq hg.symm)) hb); have n1_ := am_ (IsS116.below z92_6 hb); have n2_ := am_ (blk_below (bu BK837.out) hb); have n3_ := am_ (KeepBut.trans z92_5 (KeepBut.of_below hb g none) (.inl rfl)); have n4_ := am_ (below_step z92_7 hb); have n5_ := am_ (hbox); have n6_ := am_ (by rw [hg]; exact (keep_size (w := w) (g := g) (row := none) z92_5) : w.heap.size ≤ gb842); have n7_ := am_ (Nat.le_trans HW0.out (by rw [hg]; exact (keep_size (w := w) (g := g) (row := none) z92_5) : w.heap.size ≤ gb842) : w0.heap.size ≤ gb842); have n8_ := am_ (by rw [hg]; exact Nat.ne_of_lt (blk_lt (bu BK837.out)) : gb837 ≠ gb842); have n9_ := am_ (by rw [hg]; exact Nat.ne_of_gt (blk_lt (bu BK837.out)) : gb842 ≠ gb837); have n10_ := am_ (by rw [hg]; exact Nat.ne_of_lt (IsS116.lt (show IsS116 w0 _ g s0_0 t841 from by repeat (first | (with_reducible first | exact HI0.out | apply IsS116.alloc | apply IsS116.drewN | apply IsS116.drew | apply IsS116.set_1 | refine IsS116.far ?_ NB0_837.out _) | exact HI0.out))) : g ≠ gb842); have n11_ := am_ (by rw [hg]; exact Nat.ne_of_gt (IsS116.lt (show IsS116 w0 _ g s0_0 t841 from by repeat (first | (with_reducible first | exact HI0.out | apply IsS116.alloc | apply IsS116.drewN | apply IsS116.drew | apply IsS116.set_1 | refine IsS116.far ?_ NB0_837.out _) | exact HI0.out))) : gb842 ≠ g); clear HO840 HI0 BK837 HK HB; have HO840 := n0_; have HI0 := n1_; have BK837 := n2_; have HK := n3_; have HB := n4_; have BK842 := n5_; have GW842 := n6_; have GE842 := n7_; have NB837_842 := n8_; have NB842_837 := n9_; have NB0_842 := n10_; have NB842_0 := n11_; clear n0_ n1_ n2_ n3_ n4_ n5_ n6_ n7_ n8_ n9_ n10_ n11_; clear hb hbox hg; obtain ⟨Ao22, co22, eo22⟩ := Kd.N_slice HO840.out; subst eo22; have hnb23 := NB842_837.out; have hnc23 := NB837_842.out; have hnb24 := NB842_0.out; have hnc24 := NB0_842.out; have hcz25_0 : w21.cell? ⟨gb842, 0, none⟩ = some (.slice none 0 0) := (blk_cell BK842.out 0).trans rfl; have hfz25_0 := blk_frozen BK842.out 0) | ((with_reducible refine gate_callee (f := 71) rfl ?_); refine goesL_ (some 7) rfl rfl Try.func71 (by kernel_rfl) rfl #[.pointer (some ⟨g, 0, none⟩), .int .i64 16] rfl (by (try simp only [List.map_toArray, List.map_cons, List.map_nil]); first | done | rfl | (simp only [List.length_drop, List.length_take]; rfl)) ?_; (with_reducible refine (spec_l6Rd_pick.calls k g s0_0 t841 16 t843 t844 w0 _ ?side1 ?side2 A3.out).mono ?_); (case side1 => repeat (first | (with_reducible first | exact HI0.out | apply IsS116.alloc | apply IsS116.drewN | apply IsS116.drew | apply IsS116.set_1 | refine IsS116.far ?_ NB0_837.out _ | refine IsS116.far ?_ NB0_842.out _) | exact HI0.out)); (case side2 => repeat (first | (with_reducible first | exact HB.out | apply below_alloc | apply pw_below_drewN | apply below_drew1 | refine below_set ?_ (IsS116.ge HI0.out) | refine below_set ?_ GE837.out | refine below_set ?_ GE842.out) | exact HB.out)); rintro e w26 ⟨rfl, hi, hb, hk⟩; refine ⟨_, rfl, ?_⟩; have n0_ := am_ (KeepBut.blk hk (g' := gb837) (o := .cells #[.slice none 0 0] 35 (0, 0)) z92_11 NB837_0.out (by simp)); have n1_ := am_ (Kd.N_mono (Kd.N_keep (Kd.N_mono (ok := fun k_ => ((((w.heap.size ≤ k_)) ∧ (k_ ≠ gb837 ∧ k_ ≠ g)) ∧ k_ ≠ gb842)) (nu (Kd.N_mono (Kd.N_far (p := ⟨gb842, 0, none⟩) (Kd.N_mono HO840.out (fun k_ hk => (⟨hk, hk.2⟩ : _ ∧ k_ ≠ gb842))) (fun _ hk => hk.2) (.slice Ao22 t838.length co22)) (fun _ h_ => h_.1))) (fun k_ hk_ => (⟨hk_, hk_.1.2.2⟩ : _ ∧ k_ ≠ g))) hk (fun _ h => h.2)) (fun _ h => h.1)); have n2_ := am_ (KeepBut.blk hk (g' := gb842) (o := .cells #[.slice Ao22 t838.length co22] 35 (0, 0)) z92_12 NB842_0.out (by simp)); have n3_ := am_ (KeepBut.trans z92_8 hk (.inl rfl)); have n4_ := am_ (hb); have n5_ := am_ (hi); clear BK837 HO840 BK842 HK HB HI0; have BK837 := n0_; have HO840 := n1_; have BK842 := n2_; have HK := n3_; have HB := n4_; have HI0 := n5_; clear n0_ n1_ n2_ n3_ n4_ n5_; (try clear hb); (try clear hb2); (try clear hk); (try clear hi); have hcz27_0 : w26.cell? ⟨gb842, 0, none⟩ = some (.slice Ao22 t838.length co22) := (blk_cell BK842.out 0).trans rfl; have hfz27_0 := blk_frozen BK842.out 0; have hnb28 := NB837_0.out; have hnc28 := NB0_837.out; have hcz29_0 : w26.cell? ⟨gb837, 0, none⟩ = some (.slice none 0 0) := (blk_cell BK837.out 0).trans rfl; have hfz29_0 := blk_frozen BK837.out 0))
  refine bodyPost_ret (results_cell_row rfl _ _ gb837 35 #[.slice Ao22 t838.length co22] (0, 0) _ rfl z92_13 Try.underlying35 rfl (by kernel_rfl)) rfl ?_
  exact ⟨_, z92_1, nu (Kd.N_mono (Kd.N_far (p := ⟨gb837, 0, none⟩) (Kd.N_mono HO840.out (fun k_ hk => (⟨hk, hk.1.2.1⟩ : _ ∧ k_ ≠ gb837))) (fun _ hk => hk.2) (.slice Ao22 t838.length co22)) (fun _ hk => hk.1.1.1)), z92_9, z92_10, z92_8⟩

end Go.Proofs.Ytefkbmhkhpekjaa.PB

namespace Go.Proofs.Ytefkbmhkhpekjaa.PB
open Go.RowKit Go.Proofs.YtefkbmhkhpekjaaW.PrintWords Go.Proofs.YtefkbmhkhpekjaaW.PrintLast Go.Proofs.YtefkbmhkhpekjaaW.PrintMore
attribute [local go_sem] max2_int min2_int max_two min_two max_three min_three max_four min_four   -- for this text's walks alone
open Go.Proofs.YtefkbmhkhpekjaaMine
set_option linter.unusedVariables false
set_option linter.unusedSimpArgs false

theorem z101_1 {p : Prop} (h : p := by first | rfl | (simp; done) | (simp [*]; done)) : p := h
theorem z101_2 {p : Prop} (h : p := by first | (with_reducible assumption) | assumption) : p := h
theorem z101_3 {p : Prop} (h : p := by repeat (first | exact Drawn0.refl _ | apply Drawn0.step)) : p := h
/-! ### spec_l12Has: function 101 -/
def spec_l12Has.l0 : Nat → List Int → Int → Int → Option (Bool)
  | 0, _, _, _ => none
  | k + 1, x0, x1, x5 => if x5 < (x0.length : Int) then (if 0 ≤ x5 then (if (rd x0 x5) = x1 then (some true) else (spec_l12Has.l0 k x0 x1 (wrap64 (x5 + 1)))) else (none)) else (some false)
def spec_l12Has.f (k : Nat) (l0 : List Int) (a1 : Int) : Option (Bool) := spec_l12Has.l0 k l0 a1 0
theorem spec_l12Has.mono_l : ∀ k, (∀ y0 y1 y2, LeO (spec_l12Has.l0 k y0 y1 y2) (spec_l12Has.l0 (k + 1) y0 y1 y2))
  | 0 => fun _ _ _ r h => by simp [spec_l12Has.l0] at h
  | k + 1 => by
    have ih0 := spec_l12Has.mono_l k
    · intro y0 y1 y2
      unfold spec_l12Has.l0
      repeat' first
      | (with_reducible exact ih0 _ _ _)
      | (with_reducible exact LeO.refl _)
      | (with_reducible exact LeO.none _)
      | (with_reducible refine LeO.ite ?_ ?_)
      | (with_reducible refine LeO.bind ?_ (fun _ => ?_))
      | exact ih0 _ _ _
      | exact LeO.none _
      | refine LeO.ite ?_ ?_
      | refine LeO.bind ?_ (fun _ => ?_)
theorem spec_l12Has.mono : ∀ a0 a1 k, LeO (spec_l12Has.f k a0 a1) (spec_l12Has.f (k + 1) a0 a1) := by
  intro a0 a1 k
  have ih0 := spec_l12Has.mono_l k
  unfold spec_l12Has.f
  repeat' first
      | (with_reducible exact ih0 _ _ _)
      | (with_reducible exact LeO.refl _)
      | (with_reducible exact LeO.none _)
      | (with_reducible refine LeO.ite ?_ ?_)
      | (with_reducible refine LeO.bind ?_ (fun _ => ?_))
      | exact ih0 _ _ _
      | exact LeO.none _
      | refine LeO.ite ?_ ?_
      | refine LeO.bind ?_ (fun _ => ?_)
set_option maxHeartbeats 8000000 in
set_option maxRecDepth 100000 in
theorem spec_l12Has.calls (k : Nat) (A0 : Option Addr) (c0 : Nat) (l0 : List Int) (a1 : Int) (r : Bool) (w : World) (hr0 : Kd.C (Kd.int .i64) w A0 l0.length l0) (hc0 : l0.length ≤ c0) (h : spec_l12Has.f k l0 a1 = some r) :
  Calls Try.prog 101 #[.slice A0 l0.length c0, .int .i64 a1] w fun e w' => e = .returned (.bool r) ∧ Drawn0 w w' := by
 have HR0 := am_ hr0
 have HC0 := am_ hc0
 clear hr0 hc0
 have H : (spec_l12Has.l0 k l0 a1 0) = some r := h
 clear h
 have H' := am_ H
 clear H
 go_enter Try.func101, Try.ntmps101
 go_wp2
 go_loopg [5] k (fun kq v5 w' => ∃ (x5_1 : Int), v5 = .int .i64 x5_1 ∧ Aside0 (spec_l12Has.l0 kq l0 a1 x5_1 = some r) ∧ Aside0 (kq ≤ k) ∧ Drawn0 w w')
 case atStart => exact ⟨(0), z101_1, H', ⟨Nat.le_refl _⟩, z101_3⟩
 case round =>
  clear H'
  obtain ⟨x5_1, rfl, HA, HK1, ⟨m1, rfl⟩⟩ := hrel
  cases gk with
  | zero => exact absurd HA.out (by simp [spec_l12Has.l0])
  | succ k1 =>
   have H := HA.out
   clear HA
   simp only [spec_l12Has.l0] at H
   by_cases c3 : x5_1 < (l0.length : Int)
   ·rw [if_pos c3] at H
    have c3b0 : decide (x5_1 < (l0.length : Int)) = true := decide_eq_true c3
    clear c3
    by_cases c4 : 0 ≤ x5_1
    ·rw [if_pos c4] at H
     have c4b0 : decide (0 ≤ x5_1) = true := decide_eq_true c4
     clear c4
     by_cases c5 : (rd l0 x5_1) = a1
     ·rw [if_pos c5] at H
      have c5b0 : ((rd l0 x5_1) == a1) = true := beq_iff_eq.mpr c5
      have c5b1 : ((rd l0 x5_1) != a1) = false := bne_eq_false_iff_eq.mpr c5
      clear c5
      obtain rfl := Option.some.inj H
      have p972 : 0 ≤ (x5_1 : Int) := of_decide_eq_true z101_2
      have q972 : x5_1 < (l0.length : Int) := of_decide_eq_true z101_2
      obtain ⟨ad972, e972, hx972_0⟩ := Kd.at_int HR0.out x5_1 p972 q972
      cases e972
      replace p972 := eq_true p972
      replace q972 := eq_true q972
      go_wp2
      go_ret
      exact ⟨z101_1, z101_3⟩
     ·rw [if_neg c5] at H
      have c5b0 : ((rd l0 x5_1) == a1) = false := beq_eq_false_iff_ne.mpr c5
      have c5b1 : ((rd l0 x5_1) != a1) = true := bne_iff_ne.mpr c5
      have H' := am_ H
      clear H
      have p972 : 0 ≤ (x5_1 : Int) := of_decide_eq_true z101_2
      have q972 : x5_1 < (l0.length : Int) := of_decide_eq_true z101_2
      obtain ⟨ad972, e972, hx972_0⟩ := Kd.at_int HR0.out x5_1 p972 q972
      cases e972
      replace p972 := eq_true p972
      replace q972 := eq_true q972
      go_wp2
      go_roundg k1
      case measure => have := HK1.out; omega
      case rel => exact ⟨(wrap64 (x5_1 + 1)), z101_1, H', ⟨by have := HK1.out; omega⟩, z101_3⟩
    ·rw [if_neg c4] at H
     exact absurd H (by simp)
   ·rw [if_neg c3] at H
    have c3b0 : decide (x5_1 < (l0.length : Int)) = false := decide_eq_false c3
    clear c3
    obtain rfl := Option.some.inj H
    go_wp2
    go_ret
    exact ⟨z101_1, z101_3⟩

end Go.Proofs.Ytefkbmhkhpekjaa.PB

namespace Go.Proofs.Ytefkbmhkhpekjaa.PB
open Go.RowKit Go.Proofs.YtefkbmhkhpekjaaW.PrintWords Go.Proofs.YtefkbmhkhpekjaaW.PrintLast Go.Proofs.YtefkbmhkhpekjaaW.PrintMore
attribute [local go_sem] max2_int min2_int max_two min_two max_three min_three max_four min_four   -- for this text's walks alone
open Go.Proofs.YtefkbmhkhpekjaaMine
set_option linter.unusedVariables false
set_option linter.unusedSimpArgs false

theorem z96_1 {p : Prop} (h : p := by first | rfl | (simp; done) | (simp [*]; done)) : p := h
theorem z96_2 {p : Prop} (h : p := by first | rfl | (simp [errW_none, errW_some] <;> rfl) | (simp [*, errW_none, errW_some] <;> rfl)) : p := h
theorem z96_3 {p : Prop} (h : p := by repeat (first | (with_reducible first | exact HK.out | apply KeepBut.set_ | apply keep_drewN | apply keep_drew | apply keep_alloc) | exact HK.out)) : p := h
theorem z96_4 {p : Prop} (h : p := by repeat (first | (with_reducible first | exact HI0.out | apply IsS116.alloc | apply IsS116.drewN | apply IsS116.drew | apply IsS116.set_1) | exact HI0.out)) : p := h
theorem z96_5 {p : Prop} (h : p := by repeat (first | (with_reducible first | exact HB.out | apply below_alloc | apply pw_below_drewN | apply below_drew1 | refine below_set ?_ (IsS116.ge HI0.out)) | exact HB.out)) : p := h
/-! ### spec_l71Row: function 96 -/
def spec_l71Row.l0 : Nat → Int → List Int → Int → List Int → Int → Option (List Int × Int)
  | 0, _, _, _, _, _ => none
  | k + 1, x1, x5, x6, x1000, x1001 => if (x5.length : Int) < x1 then ((spec_l6Rd_pick.f k x1000 x1001 x1).bind fun bt976 => (if x6 > 20 then (if x1 = 0 then (none) else ((spec_l12Has.f k x5 (Int.tmod x6 x1)).bind fun t978 => (if t978 = true then (spec_l71Row.l0 k x1 x5 (wrap64 (x6 + 1)) x1000 bt976.2) else (if x5.length < 17592186044416 then (spec_l71Row.l0 k x1 (x5 ++ [Int.tmod x6 x1]) (wrap64 (x6 + 1)) x1000 bt976.2) else (none))))) else ((spec_l12Has.f k x5 bt976.1).bind fun t982 => (if t982 = true then (spec_l71Row.l0 k x1 x5 (wrap64 (x6 + 1)) x1000 bt976.2) else (if x5.length < 17592186044416 then (spec_l71Row.l0 k x1 (x5 ++ [bt976.1]) (wrap64 (x6 + 1)) x1000 bt976.2) else (none)))))) else ((spec_l6Rd_pick.f k x1000 x1001 20).bind fun bt986 => (if bt986.1 = 0 then ((spec_l6Rd_pick.f k x1000 bt986.2 3).bind fun bt988 => (if x5.length < 17592186044416 then (some ((x5 ++ [bt988.1]), bt988.2)) else (none))) else (some (x5, bt986.2))))
def spec_l71Row.f (k : Nat) (s0_0 : List Int) (s0_1 : Int) (a1 : Int) : Option (List Int × Int) := spec_l71Row.l0 k a1 (([] : List Int)) 0 s0_0 s0_1
theorem spec_l71Row.mono_l : ∀ k, (∀ y0 y1 y2 y3 y4, LeO (spec_l71Row.l0 k y0 y1 y2 y3 y4) (spec_l71Row.l0 (k + 1) y0 y1 y2 y3 y4))
  | 0 => fun _ _ _ _ _ r h => by simp [spec_l71Row.l0] at h
  | k + 1 => by
    have ih0 := spec_l71Row.mono_l k
    · intro y0 y1 y2 y3 y4
      unfold spec_l71Row.l0
      repeat' first
      | (with_reducible exact ih0 _ _ _ _ _)
      | (with_reducible exact spec_l12Has.mono _ _ _)
      | (with_reducible exact spec_l6Rd_pick.mono _ _ _ _)
      | (with_reducible exact LeO.refl _)
      | (with_reducible exact LeO.none _)
      | (with_reducible refine LeO.ite ?_ ?_)
      | (with_reducible refine LeO.bind ?_ (fun _ => ?_))
      | exact ih0 _ _ _ _ _
      | exact spec_l12Has.mono _ _ _
      | exact spec_l6Rd_pick.mono _ _ _ _
      | exact LeO.none _
      | refine LeO.ite ?_ ?_
      | refine LeO.bind ?_ (fun _ => ?_)
theorem spec_l71Row.mono : ∀ a0 a1 a2 k, LeO (spec_l71Row.f k a0 a1 a2) (spec_l71Row.f (k + 1) a0 a1 a2) := by
  intro a0 a1 a2 k
  have ih0 := spec_l71Row.mono_l k
  unfold spec_l71Row.f
  repeat' first
      | (with_reducible exact ih0 _ _ _ _ _)
      | (with_reducible exact spec_l12Has.mono _ _ _)
      | (with_reducible exact spec_l6Rd_pick.mono _ _ _ _)
      | (with_reducible exact LeO.refl _)
      | (with_reducible exact LeO.none _)
      | (with_reducible refine LeO.ite ?_ ?_)
      | (with_reducible refine LeO.bind ?_ (fun _ => ?_))
      | exact ih0 _ _ _ _ _
      | exact spec_l12Has.mono _ _ _
      | exact spec_l6Rd_pick.mono _ _ _ _
      | exact LeO.none _
      | refine LeO.ite ?_ ?_
      | refine LeO.bind ?_ (fun _ => ?_)
set_option maxHeartbeats 8000000 in
set_option maxRecDepth 100000 in
theorem spec_l71Row.calls (k : Nat) (g : Nat) (s0_0 : List Int) (s0_1 : Int) (a1 : Int) (r1 : List Int) (r2 : Int) (w0 w : World) (hI : IsS116 w0 w g s0_0 s0_1) (hB : Below w0.heap.size w0 w) (h : spec_l71Row.f k s0_0 s0_1 a1 = some (r1, r2)) :
  Calls Try.prog 96 #[.pointer (some ⟨g, 0, none⟩), .int .i64 a1] w fun e w' => ∃ v0_ : Value, e = .returned (v0_) ∧ Kd.R (Kd.int .i64) 3 w' w.heap.size (fun _ => True) v0_ r1 ∧ IsS116 w0 w' g s0_0 r2 ∧ Below w0.heap.size w0 w' ∧ KeepBut w w' g none := by
 have HI0 := am_ hI
 have HK := am_ (KeepBut.refl w g none)
 have HL := am_ hB.size
 clear hI
 have HW0 := am_ hB.size
 have HB := am_ hB
 clear hB
 have H : (spec_l71Row.l0 k a1 (([] : List Int)) 0 s0_0 s0_1) = some (r1, r2) := h
 clear h
 obtain ⟨y973, hy973⟩ : ∃ y_ : List Int, y_ = (([] : List Int)) := ⟨_, rfl⟩
 replace H : (spec_l71Row.l0 k a1 y973 0 s0_0 s0_1) = some (r1, r2) := by first | (rw [hy973]; with_reducible exact H) | (have H2_ := (Option.bind_some _ _).symm.trans H; rw [hy973]; with_reducible exact H2_) | (have H2_ := (Option.bind_some _ _).symm.trans H; with_reducible exact H2_) | with_reducible exact H | (rw [hy973]; exact H) | exact H
 have Ny973 := am_ hy973
 clear hy973
 have H' := am_ H
 clear H
 go_enter Try.func96, Try.ntmps96
 go_wp2_with (first | ((with_reducible refine gate_dst (N := 8) rfl ?_); refine Kd.R_lit (Kd.int .i64) _ 3 ?hg (N := 8) ?hd (xs := ([] : List Int)) (inner := []) (ok := fun _ => True) (okp := fun _ => True) ?hr ?hp (fun _ hk => hk) trivial (Below.refl _ _) (Nat.le_refl _) (by simp) ?_; (case hd => rfl); (case hg => rfl); (case hr => first | (go_simp; done) | (go_simp; rfl)); (case hp => exact (Reps.none _ _)); intro v974 w3 ho4 hb hg_ hnew_; clear hg_ hnew_; (first | rw [← Ny973.out] at ho4 | (simp only [Int.reduceToNat] at ho4; rw [← Ny973.out] at ho4)); have n0_ := am_ (Kd.R_lower ho4 (keep_size (w := w) (g := g) (row := none) z96_3)); have n1_ := am_ (IsS116.below z96_4 hb); have n2_ := am_ (KeepBut.trans z96_3 (KeepBut.of_below hb g none) (.inl rfl)); have n3_ := am_ (below_step z96_5 hb); clear HI0 HK HB; have HO975 := n0_; have HI0 := n1_; have HK := n2_; have HB := n3_; clear n0_ n1_ n2_ n3_; clear hb ho4))
 go_loopg [5, 6] k (fun kq v5 v6 w' => ∃ (x5_1 : List Int) (x6_1 : Int) (x1001_1 : Int), v6 = .int .i64 x6_1 ∧ Aside0 (spec_l71Row.l0 kq a1 x5_1 x6_1 s0_0 x1001_1 = some (r1, r2)) ∧ Aside0 (kq ≤ k) ∧ Aside0 (Kd.R (Kd.int .i64) 3 w' w.heap.size (fun _ => True) v5 x5_1) ∧ Aside0 (IsS116 w0 w' g s0_0 x1001_1) ∧ Aside0 (KeepBut w w' g none) ∧ Aside0 (Below w0.heap.size w0 w'))
 case atStart => exact ⟨(y973), (0), (s0_1), z96_1, H', ⟨Nat.le_refl _⟩, ⟨ru HO975.out⟩, ⟨z96_4⟩, ⟨z96_3⟩, ⟨z96_5⟩⟩
 case round =>
  clear H'
  obtain ⟨x5_1, x6_1, x1001_1, rfl, HA, HK1, HO_5, HI0, HK, HB⟩ := hrel
  cases gk with
  | zero => exact absurd HA.out (by simp [spec_l71Row.l0])
  | succ k1 =>
   have H := HA.out
   clear HA
   simp only [spec_l71Row.l0] at H
   by_cases c5 : (x5_1.length : Int) < a1
   ·rw [if_pos c5] at H
    have c5b0 : decide ((x5_1.length : Int) < a1) = true := decide_eq_true c5
    clear c5
    replace H := Option.bind_eq_some_iff.mp H
    obtain ⟨⟨t976, t977⟩, A60, H⟩ := H
    replace H : (if x6_1 > 20 then (if a1 = 0 then (none) else ((spec_l12Has.f k1 x5_1 (Int.tmod x6_1 a1)).bind fun t978 => (if t978 = true then (spec_l71Row.l0 k1 a1 x5_1 (wrap64 (x6_1 + 1)) s0_0 t977) else (if x5_1.length < 17592186044416 then (spec_l71Row.l0 k1 a1 (x5_1 ++ [Int.tmod x6_1 a1]) (wrap64 (x6_1 + 1)) s0_0 t977) else (none))))) else ((spec_l12Has.f k1 x5_1 t976).bind fun t982 => (if t982 = true then (spec_l71Row.l0 k1 a1 x5_1 (wrap64 (x6_1 + 1)) s0_0 t977) else (if x5_1.length < 17592186044416 then (spec_l71Row.l0 k1 a1 (x5_1 ++ [t976]) (wrap64 (x6_1 + 1)) s0_0 t977) else (none))))) = some (r1, r2) := H
    have A6 := am_ A60
    clear A60
    by_cases c7 : x6_1 > 20
    ·rw [if_pos c7] at H
     have c7b0 : decide (20 < x6_1) = true := decide_eq_true c7
     clear c7
     by_cases c8 : a1 = 0
     ·rw [if_pos c8] at H
      exact absurd H (by simp)
     ·rw [if_neg c8] at H
      have c8b0 : (a1 == 0) = false := beq_eq_false_iff_ne.mpr c8
      have c8b1 : (a1 != 0) = true := bne_iff_ne.mpr c8
      replace H := Option.bind_eq_some_iff.mp H
      obtain ⟨t978, A90, H⟩ := H
      replace H : (if t978 = true then (spec_l71Row.l0 k1 a1 x5_1 (wrap64 (x6_1 + 1)) s0_0 t977) else (if x5_1.length < 17592186044416 then (spec_l71Row.l0 k1 a1 (x5_1 ++ [Int.tmod x6_1 a1]) (wrap64 (x6_1 + 1)) s0_0 t977) else (none))) = some (r1, r2) := H
      have A9 := am_ A90
      clear A90
      by_cases c10 : t978 = true
      ·subst c10
       have H1 : (spec_l71Row.l0 k1 a1 x5_1 (wrap64 (x6_1 + 1)) s0_0 t977) = some (r1, r2) := by rw [if_pos rfl] at H; exact H
       clear H
       have H := H1
       clear H1
       have H' := am_ H
       clear H
       obtain ⟨Ao11, co11, eo11⟩ := Kd.R_slice HO_5.out
       subst eo11
       go_wp2_with (first | ((with_reducible refine gate_callee (f := 71) rfl ?_); refine goesL_ (some 17) rfl rfl Try.func71 (by kernel_rfl) rfl #[.pointer (some ⟨g, 0, none⟩), .int .i64 a1] rfl (by (try simp only [List.map_toArray, List.map_cons, List.map_nil]); first | done | rfl | (simp only [List.length_drop, List.length_take]; rfl)) ?_; (with_reducible refine (spec_l6Rd_pick.calls k1 g s0_0 x1001_1 a1 t976 t977 w0 _ ?side1 ?side2 A6.out).mono ?_); (case side1 => repeat (first | (with_reducible first | exact HI0.out | apply IsS116.alloc | apply IsS116.drewN | apply IsS116.drew | apply IsS116.set_1) | exact HI0.out)); (case side2 => repeat (first | (with_reducible first | exact HB.out | apply below_alloc | apply pw_below_drewN | apply below_drew1 | refine below_set ?_ (IsS116.ge HI0.out)) | exact HB.out)); rintro e w12 ⟨rfl, hi, hb, hk⟩; refine ⟨_, rfl, ?_⟩; have n0_ := am_ (Kd.R_mono (Kd.R_keep (IsS116.apart (show IsS116 w0 _ g s0_0 x1001_1 from by repeat (first | (with_reducible first | exact HI0.out | apply IsS116.alloc | apply IsS116.drewN | apply IsS116.drew | apply IsS116.set_1) | exact HI0.out)) (ru HO_5.out) (by decide)) hk (fun _ h => h.2)) (fun _ h => h.1)); have n1_ := am_ (KeepBut.trans z96_3 hk (.inl rfl)); have n2_ := am_ (hb); have n3_ := am_ (hi); clear HO_5 HK HB HI0; have HO_5 := n0_; have HK := n1_; have HB := n2_; have HI0 := n3_; clear n0_ n1_ n2_ n3_; (try clear hb); (try clear hb2); (try clear hk); (try clear hi)) | ((with_reducible refine gate_callee (f := 101) rfl ?_); refine goesL_ (some 25) rfl rfl Try.func101 (by kernel_rfl) rfl #[.slice Ao11 x5_1.length co11, .int .i64 (Int.tmod x6_1 a1)] rfl (by (try simp only [List.map_toArray, List.map_cons, List.map_nil]); first | done | rfl | (simp only [List.length_drop, List.length_take]; rfl)) ?_; (with_reducible refine (spec_l12Has.calls k1 _ _ x5_1 (Int.tmod x6_1 a1) true _ ?side1 ?side2 A9.out).mono ?_); (case side1 => repeat (first | exact (Kd.R_reads' HO_5.out).2.2 | (with_reducible refine Kd.C_alloc ?_ _) | (with_reducible refine Kd.C_drewN ?_ _) | (with_reducible refine Kd.C_drew ?_))); (case side2 => exact (Kd.R_reads' HO_5.out).2.1); rintro e w' ⟨rfl, ⟨nd, rfl⟩⟩; refine ⟨_, rfl, ?_⟩))
       go_roundg k1
       case measure => have := HK1.out; omega
       case rel => exact ⟨(x5_1), (wrap64 (x6_1 + 1)), (t977), z96_1, H', ⟨by have := HK1.out; omega⟩, ⟨ru HO_5.out⟩, ⟨z96_4⟩, ⟨z96_3⟩, ⟨z96_5⟩⟩
      ·replace c10 := Bool.eq_false_iff.mpr c10
       subst c10
       have H1 : (if x5_1.length < 17592186044416 then (spec_l71Row.l0 k1 a1 (x5_1 ++ [Int.tmod x6_1 a1]) (wrap64 (x6_1 + 1)) s0_0 t977) else (none)) = some (r1, r2) := by rw [if_neg (show ¬ (false = true) by decide)] at H; exact H
       clear H
       have H := H1
       clear H1
       by_cases c13 : x5_1.length < 17592186044416
       ·rw [if_pos c13] at H
        have LMc13 := am_ c13
        clear c13
        obtain ⟨y979, hy979⟩ : ∃ y_ : List Int, y_ = (x5_1 ++ [Int.tmod x6_1 a1]) := ⟨_, rfl⟩
        replace H : (spec_l71Row.l0 k1 a1 y979 (wrap64 (x6_1 + 1)) s0_0 t977) = some (r1, r2) := by first | (rw [hy979]; with_reducible exact H) | (have H2_ := (Option.bind_some _ _).symm.trans H; rw [hy979]; with_reducible exact H2_) | (have H2_ := (Option.bind_some _ _).symm.trans H; with_reducible exact H2_) | with_reducible exact H | (rw [hy979]; exact H) | exact H
        have Ny979 := am_ hy979
        clear hy979
        have H' := am_ H
        clear H
        obtain ⟨Ao14, co14, eo14⟩ := Kd.R_slice HO_5.out
        subst eo14
        go_wp2_with (first | ((with_reducible refine gate_callee (f := 71) rfl ?_); refine goesL_ (some 17) rfl rfl Try.func71 (by kernel_rfl) rfl #[.pointer (some ⟨g, 0, none⟩), .int .i64 a1] rfl (by (try simp only [List.map_toArray, List.map_cons, List.map_nil]); first | done | rfl | (simp only [List.length_drop, List.length_take]; rfl)) ?_; (with_reducible refine (spec_l6Rd_pick.calls k1 g s0_0 x1001_1 a1 t976 t977 w0 _ ?side1 ?side2 A6.out).mono ?_); (case side1 => repeat (first | (with_reducible first | exact HI0.out | apply IsS116.alloc | apply IsS116.drewN | apply IsS116.drew | apply IsS116.set_1) | exact HI0.out)); (case side2 => repeat (first | (with_reducible first | exact HB.out | apply below_alloc | apply pw_below_drewN | apply below_drew1 | refine below_set ?_ (IsS116.ge HI0.out)) | exact HB.out)); rintro e w15 ⟨rfl, hi, hb, hk⟩; refine ⟨_, rfl, ?_⟩; have n0_ := am_ (Kd.R_mono (Kd.R_keep (IsS116.apart (show IsS116 w0 _ g s0_0 x1001_1 from by repeat (first | (with_reducible first | exact HI0.out | apply IsS116.alloc | apply IsS116.drewN | apply IsS116.drew | apply IsS116.set_1) | exact HI0.out)) (ru HO_5.out) (by decide)) hk (fun _ h => h.2)) (fun _ h => h.1)); have n1_ := am_ (KeepBut.trans z96_3 hk (.inl rfl)); have n2_ := am_ (hb); have n3_ := am_ (hi); clear HO_5 HK HB HI0; have HO_5 := n0_; have HK := n1_; have HB := n2_; have HI0 := n3_; clear n0_ n1_ n2_ n3_; (try clear hb); (try clear hb2); (try clear hk); (try clear hi)) | ((with_reducible refine gate_callee (f := 101) rfl ?_); refine goesL_ (some 25) rfl rfl Try.func101 (by kernel_rfl) rfl #[.slice Ao14 x5_1.length co14, .int .i64 (Int.tmod x6_1 a1)] rfl (by (try simp only [List.map_toArray, List.map_cons, List.map_nil]); first | done | rfl | (simp only [List.length_drop, List.length_take]; rfl)) ?_; (with_reducible refine (spec_l12Has.calls k1 _ _ x5_1 (Int.tmod x6_1 a1) false _ ?side1 ?side2 A9.out).mono ?_); (case side1 => repeat (first | exact (Kd.R_reads' HO_5.out).2.2 | (with_reducible refine Kd.C_alloc ?_ _) | (with_reducible refine Kd.C_drewN ?_ _) | (with_reducible refine Kd.C_drew ?_))); (case side2 => exact (Kd.R_reads' HO_5.out).2.1); rintro e w' ⟨rfl, ⟨nd, rfl⟩⟩; refine ⟨_, rfl, ?_⟩) | ((with_reducible refine gate_builtin (b := .append) (xs := #[.tmp 27, .tmp 29]) rfl ?_); at_builtin; refine Kd.R_append (Kd.int .i64) w.heap.size rfl (.tmp 27) (.tmp 29) 22 3 (.int .i64 0) 8 rfl Try.underlying22 info3 rfl (by decide) (by omega) (.slice Ao14 x5_1.length co14) x5_1 (Int.tmod x6_1 a1) [.int .i64 (Int.tmod x6_1 a1)] (fun _ => True) (fun _ => False) rfl rfl ?aP (fun _ hk => hk.elim) ?aF ?aO (Below.refl _ _) ?aS ?aL ?_; (case aP => exact rfl); (case aF => exact (fun _ _ => trivial)); (case aO => exact (ru HO_5.out)); (case aS => exact (keep_size (w := w) (g := g) (row := none) z96_3)); (case aL => have := LMc13.out; omega); intro v980 w16 ho hb hg hat; rw [← Ny979.out] at ho; have n0_ := am_ (IsS116.grown z96_4 hg (IsS116.own_ne HI0.out HO_5.out (by decide))); have n1_ := am_ (below_weaken z96_5 HL.out hb); have n2_ := am_ (KeepBut.trans z96_3 (KeepBut.of_grown hg g) (Kd.R_base2 HO_5.out)); have n3_ := am_ (ho); clear HI0 HB HK HO_5; have HI0 := n0_; have HB := n1_; have HK := n2_; have HO981 := n3_; clear n0_ n1_ n2_ n3_; clear ho hb hg hat))
        go_roundg k1
        case measure => have := HK1.out; omega
        case rel => exact ⟨(y979), (wrap64 (x6_1 + 1)), (t977), z96_1, H', ⟨by have := HK1.out; omega⟩, ⟨ru HO981.out⟩, ⟨z96_4⟩, ⟨z96_3⟩, ⟨z96_5⟩⟩
       ·rw [if_neg c13] at H
        exact absurd H (by simp)
    ·rw [if_neg c7] at H
     have c7b0 : decide (20 < x6_1) = false := decide_eq_false c7
     clear c7
     replace H := Option.bind_eq_some_iff.mp H
     obtain ⟨t982, A170, H⟩ := H
     replace H : (if t982 = true then (spec_l71Row.l0 k1 a1 x5_1 (wrap64 (x6_1 + 1)) s0_0 t977) else (if x5_1.length < 17592186044416 then (spec_l71Row.l0 k1 a1 (x5_1 ++ [t976]) (wrap64 (x6_1 + 1)) s0_0 t977) else (none))) = some (r1, r2) := H
     have A17 := am_ A170
     clear A170
     by_cases c18 : t982 = true
     ·subst c18
      have H1 : (spec_l71Row.l0 k1 a1 x5_1 (wrap64 (x6_1 + 1)) s0_0 t977) = some (r1, r2) := by rw [if_pos rfl] at H; exact H
      clear H
      have H := H1
      clear H1
      have H' := am_ H
      clear H
      obtain ⟨Ao19, co19, eo19⟩ := Kd.R_slice HO_5.out
      subst eo19
      go_wp2_with (first | ((with_reducible refine gate_callee (f := 71) rfl ?_); refine goesL_ (some 17) rfl rfl Try.func71 (by kernel_rfl) rfl #[.pointer (some ⟨g, 0, none⟩), .int .i64 a1] rfl (by (try simp only [List.map_toArray, List.map_cons, List.map_nil]); first | done | rfl | (simp only [List.length_drop, List.length_take]; rfl)) ?_; (with_reducible refine (spec_l6Rd_pick.calls k1 g s0_0 x1001_1 a1 t976 t977 w0 _ ?side1 ?side2 A6.out).mono ?_); (case side1 => repeat (first | (with_reducible first | exact HI0.out | apply IsS116.alloc | apply IsS116.drewN | apply IsS116.drew | apply IsS116.set_1) | exact HI0.out)); (case side2 => repeat (first | (with_reducible first | exact HB.out | apply below_alloc | apply pw_below_drewN | apply below_drew1 | refine below_set ?_ (IsS116.ge HI0.out)) | exact HB.out)); rintro e w20 ⟨rfl, hi, hb, hk⟩; refine ⟨_, rfl, ?_⟩; have n0_ := am_ (Kd.R_mono (Kd.R_keep (IsS116.apart (show IsS116 w0 _ g s0_0 x1001_1 from by repeat (first | (with_reducible first | exact HI0.out | apply IsS116.alloc | apply IsS116.drewN | apply IsS116.drew | apply IsS116.set_1) | exact HI0.out)) (ru HO_5.out) (by decide)) hk (fun _ h => h.2)) (fun _ h => h.1)); have n1_ := am_ (KeepBut.trans z96_3 hk (.inl rfl)); have n2_ := am_ (hb); have n3_ := am_ (hi); clear HO_5 HK HB HI0; have HO_5 := n0_; have HK := n1_; have HB := n2_; have HI0 := n3_; clear n0_ n1_ n2_ n3_; (try clear hb); (try clear hb2); (try clear hk); (try clear hi)) | ((with_reducible refine gate_callee (f := 101) rfl ?_); refine goesL_ (some 25) rfl rfl Try.func101 (by kernel_rfl) rfl #[.slice Ao19 x5_1.length co19, .int .i64 t976] rfl (by (try simp only [List.map_toArray, List.map_cons, List.map_nil]); first | done | rfl | (simp only [List.length_drop, List.length_take]; rfl)) ?_; (with_reducible refine (spec_l12Has.calls k1 _ _ x5_1 t976 true _ ?side1 ?side2 A17.out).mono ?_); (case side1 => repeat (first | exact (Kd.R_reads' HO_5.out).2.2 | (with_reducible refine Kd.C_alloc ?_ _) | (with_reducible refine Kd.C_drewN ?_ _) | (with_reducible refine Kd.C_drew ?_))); (case side2 => exact (Kd.R_reads' HO_5.out).2.1); rintro e w' ⟨rfl, ⟨nd, rfl⟩⟩; refine ⟨_, rfl, ?_⟩))
      go_roundg k1
      case measure => have := HK1.out; omega
      case rel => exact ⟨(x5_1), (wrap64 (x6_1 + 1)), (t977), z96_1, H', ⟨by have := HK1.out; omega⟩, ⟨ru HO_5.out⟩, ⟨z96_4⟩, ⟨z96_3⟩, ⟨z96_5⟩⟩
     ·replace c18 := Bool.eq_false_iff.mpr c18
      subst c18
      have H1 : (if x5_1.length < 17592186044416 then (spec_l71Row.l0 k1 a1 (x5_1 ++ [t976]) (wrap64 (x6_1 + 1)) s0_0 t977) else (none)) = some (r1, r2) := by rw [if_neg (show ¬ (false = true) by decide)] at H; exact H
      clear H
      have H := H1
      clear H1
      by_cases c21 : x5_1.length < 17592186044416
      ·rw [if_pos c21] at H
       have LMc21 := am_ c21
       clear c21
       obtain ⟨y983, hy983⟩ : ∃ y_ : List Int, y_ = (x5_1 ++ [t976]) := ⟨_, rfl⟩
       replace H : (spec_l71Row.l0 k1 a1 y983 (wrap64 (x6_1 + 1)) s0_0 t977) = some (r1, r2) := by first | (rw [hy983]; with_reducible exact H) | (have H2_ := (Option.bind_some _ _).symm.trans H; rw [hy983]; with_reducible exact H2_) | (have H2_ := (Option.bind_some _ _).symm.trans H; with_reducible exact H2_) | with_reducible exact H | (rw [hy983]; exact H) | exact H
       have Ny983 := am_ hy983
       clear hy983
       have H' := am_ H
       clear H
       obtain ⟨Ao22, co22, eo22⟩ := Kd.R_slice HO_5.out
       subst eo22
       go_wp2_with (first | ((with_reducible refine gate_callee (f := 71) rfl ?_); refine goesL_ (some 17) rfl rfl Try.func71 (by kernel_rfl) rfl #[.pointer (some ⟨g, 0, none⟩), .int .i64 a1] rfl (by (try simp only [List.map_toArray, List.map_cons, List.map_nil]); first | done | rfl | (simp only [List.length_drop, List.length_take]; rfl)) ?_; (with_reducible refine (spec_l6Rd_pick.calls k1 g s0_0 x1001_1 a1 t976 t977 w0 _ ?side1 ?side2 A6.out).mono ?_); (case side1 => repeat (first | (with_reducible first | exact HI0.out | apply IsS116.alloc | apply IsS116.drewN | apply IsS116.drew | apply IsS116.set_1) | exact HI0.out)); (case side2 => repeat (first | (with_reducible first | exact HB.out | apply below_alloc | apply pw_below_drewN | apply below_drew1 | refine below_set ?_ (IsS116.ge HI0.out)) | exact HB.out)); rintro e w23 ⟨rfl, hi, hb, hk⟩; refine ⟨_, rfl, ?_⟩; have n0_ := am_ (Kd.R_mono (Kd.R_keep (IsS116.apart (show IsS116 w0 _ g s0_0 x1001_1 from by repeat (first | (with_reducible first | exact HI0.out | apply IsS116.alloc | apply IsS116.drewN | apply IsS116.drew | apply IsS116.set_1) | exact HI0.out)) (ru HO_5.out) (by decide)) hk (fun _ h => h.2)) (fun _ h => h.1)); have n1_ := am_ (KeepBut.trans z96_3 hk (.inl rfl)); have n2_ := am_ (hb); have n3_ := am_ (hi); clear HO_5 HK HB HI0; have HO_5 := n0_; have HK := n1_; have HB := n2_; have HI0 := n3_; clear n0_ n1_ n2_ n3_; (try clear hb); (try clear hb2); (try clear hk); (try clear hi)) | ((with_reducible refine gate_callee (f := 101) rfl ?_); refine goesL_ (some 25) rfl rfl Try.func101 (by kernel_rfl) rfl #[.slice Ao22 x5_1.length co22, .int .i64 t976] rfl (by (try simp only [List.map_toArray, List.map_cons, List.map_nil]); first | done | rfl | (simp only [List.length_drop, List.length_take]; rfl)) ?_; (with_reducible refine (spec_l12Has.calls k1 _ _ x5_1 t976 false _ ?side1 ?side2 A17.out).mono ?_); (case side1 => repeat (first | exact (Kd.R_reads' HO_5.out).2.2 | (with_reducible refine Kd.C_alloc ?_ _) | (with_reducible refine Kd.C_drewN ?_ _) | (with_reducible refine Kd.C_drew ?_))); (case side2 => exact (Kd.R_reads' HO_5.out).2.1); rintro e w' ⟨rfl, ⟨nd, rfl⟩⟩; refine ⟨_, rfl, ?_⟩) | ((with_reducible refine gate_builtin (b := .append) (xs := #[.tmp 27, .tmp 29]) rfl ?_); at_builtin; refine Kd.R_append (Kd.int .i64) w.heap.size rfl (.tmp 27) (.tmp 29) 22 3 (.int .i64 0) 8 rfl Try.underlying22 info3 rfl (by decide) (by omega) (.slice Ao22 x5_1.length co22) x5_1 t976 [.int .i64 t976] (fun _ => True) (fun _ => False) rfl rfl ?aP (fun _ hk => hk.elim) ?aF ?aO (Below.refl _ _) ?aS ?aL ?_; (case aP => exact rfl); (case aF => exact (fun _ _ => trivial)); (case aO => exact (ru HO_5.out)); (case aS => exact (keep_size (w := w) (g := g) (row := none) z96_3)); (case aL => have := LMc21.out; omega); intro v984 w24 ho hb hg hat; rw [← Ny983.out] at ho; have n0_ := am_ (IsS116.grown z96_4 hg (IsS116.own_ne HI0.out HO_5.out (by decide))); have n1_ := am_ (below_weaken z96_5 HL.out hb); have n2_ := am_ (KeepBut.trans z96_3 (KeepBut.of_grown hg g) (Kd.R_base2 HO_5.out)); have n3_ := am_ (ho); clear HI0 HB HK HO_5; have HI0 := n0_; have HB := n1_; have HK := n2_; have HO985 := n3_; clear n0_ n1_ n2_ n3_; clear ho hb hg hat))
       go_roundg k1
       case measure => have := HK1.out; omega
       case rel => exact ⟨(y983), (wrap64 (x6_1 + 1)), (t977), z96_1, H', ⟨by have := HK1.out; omega⟩, ⟨ru HO985.out⟩, ⟨z96_4⟩, ⟨z96_3⟩, ⟨z96_5⟩⟩
      ·rw [if_neg c21] at H
       exact absurd H (by simp)
   ·rw [if_neg c5] at H
    have c5b0 : decide ((x5_1.length : Int) < a1) = false := decide_eq_false c5
    clear c5
    replace H := Option.bind_eq_some_iff.mp H
    obtain ⟨⟨t986, t987⟩, A250, H⟩ := H
    replace H : (if t986 = 0 then ((spec_l6Rd_pick.f k1 s0_0 t987 3).bind fun bt988 => (if x5_1.length < 17592186044416 then (some ((x5_1 ++ [bt988.1]), bt988.2)) else (none))) else (some (x5_1, t987))) = some (r1, r2) := H
    have A25 := am_ A250
    clear A250
    by_cases c26 : t986 = 0
    ·rw [if_pos c26] at H
     have c26b0 : (t986 == 0) = true := beq_iff_eq.mpr c26
     have c26b1 : (t986 != 0) = false := bne_eq_false_iff_eq.mpr c26
     clear c26
     replace H := Option.bind_eq_some_iff.mp H
     obtain ⟨⟨t988, t989⟩, A270, H⟩ := H
     replace H : (if x5_1.length < 17592186044416 then (some ((x5_1 ++ [t988]), t989)) else (none)) = some (r1, r2) := H
     have A27 := am_ A270
     clear A270
     by_cases c28 : x5_1.length < 17592186044416
     ·rw [if_pos c28] at H
      have LMc28 := am_ c28
      clear c28
      obtain ⟨y990, hy990⟩ : ∃ y_ : List Int, y_ = (x5_1 ++ [t988]) := ⟨_, rfl⟩
      replace H : (some (y990, t989)) = some (r1, r2) := by first | (rw [hy990]; with_reducible exact H) | (have H2_ := (Option.bind_some _ _).symm.trans H; rw [hy990]; with_reducible exact H2_) | (have H2_ := (Option.bind_some _ _).symm.trans H; with_reducible exact H2_) | with_reducible exact H | (rw [hy990]; exact H) | exact H
      have Ny990 := am_ hy990
      clear hy990
      simp only [Option.some.injEq, Prod.mk.injEq] at H
      obtain ⟨rfl, rfl⟩ := H
      obtain ⟨Ao29, co29, eo29⟩ := Kd.R_slice HO_5.out
      subst eo29
      go_wp2_with (first | ((with_reducible refine gate_callee (f := 71) rfl ?_); refine goesL_ (some 32) rfl rfl Try.func71 (by kernel_rfl) rfl #[.pointer (some ⟨g, 0, none⟩), .int .i64 20] rfl (by (try simp only [List.map_toArray, List.map_cons, List.map_nil]); first | done | rfl | (simp only [List.length_drop, List.length_take]; rfl)) ?_; (with_reducible refine (spec_l6Rd_pick.calls k1 g s0_0 x1001_1 20 t986 t987 w0 _ ?side1 ?side2 A25.out).mono ?_); (case side1 => repeat (first | (with_reducible first | exact HI0.out | apply IsS116.alloc | apply IsS116.drewN | apply IsS116.drew | apply IsS116.set_1) | exact HI0.out)); (case side2 => repeat (first | (with_reducible first | exact HB.out | apply below_alloc | apply pw_below_drewN | apply below_drew1 | refine below_set ?_ (IsS116.ge HI0.out)) | exact HB.out)); rintro e w30 ⟨rfl, hi, hb, hk⟩; refine ⟨_, rfl, ?_⟩; have n0_ := am_ (Kd.R_mono (Kd.R_keep (IsS116.apart (show IsS116 w0 _ g s0_0 x1001_1 from by repeat (first | (with_reducible first | exact HI0.out | apply IsS116.alloc | apply IsS116.drewN | apply IsS116.drew | apply IsS116.set_1) | exact HI0.out)) (ru HO_5.out) (by decide)) hk (fun _ h => h.2)) (fun _ h => h.1)); have n1_ := am_ (KeepBut.trans z96_3 hk (.inl rfl)); have n2_ := am_ (hb); have n3_ := am_ (hi); clear HO_5 HK HB HI0; have HO_5 := n0_; have HK := n1_; have HB := n2_; have HI0 := n3_; clear n0_ n1_ n2_ n3_; (try clear hb); (try clear hb2); (try clear hk); (try clear hi)) | ((with_reducible refine gate_callee (f := 71) rfl ?_); refine goesL_ (some 36) rfl rfl Try.func71 (by kernel_rfl) rfl #[.pointer (some ⟨g, 0, none⟩), .int .i64 3] rfl (by (try simp only [List.map_toArray, List.map_cons, List.map_nil]); first | done | rfl | (simp only [List.length_drop, List.length_take]; rfl)) ?_; (with_reducible refine (spec_l6Rd_pick.calls k1 g s0_0 t987 3 t988 t989 w0 _ ?side1 ?side2 A27.out).mono ?_); (case side1 => repeat (first | (with_reducible first | exact HI0.out | apply IsS116.alloc | apply IsS116.drewN | apply IsS116.drew | apply IsS116.set_1) | exact HI0.out)); (case side2 => repeat (first | (with_reducible first | exact HB.out | apply below_alloc | apply pw_below_drewN | apply below_drew1 | refine below_set ?_ (IsS116.ge HI0.out)) | exact HB.out)); rintro e w31 ⟨rfl, hi, hb, hk⟩; refine ⟨_, rfl, ?_⟩; have n0_ := am_ (Kd.R_mono (Kd.R_keep (IsS116.apart (show IsS116 w0 _ g s0_0 t987 from by repeat (first | (with_reducible first | exact HI0.out | apply IsS116.alloc | apply IsS116.drewN | apply IsS116.drew | apply IsS116.set_1) | exact HI0.out)) (ru HO_5.out) (by decide)) hk (fun _ h => h.2)) (fun _ h => h.1)); have n1_ := am_ (KeepBut.trans z96_3 hk (.inl rfl)); have n2_ := am_ (hb); have n3_ := am_ (hi); clear HO_5 HK HB HI0; have HO_5 := n0_; have HK := n1_; have HB := n2_; have HI0 := n3_; clear n0_ n1_ n2_ n3_; (try clear hb); (try clear hb2); (try clear hk); (try clear hi)) | ((with_reducible refine gate_builtin (b := .append) (xs := #[.tmp 34, .tmp 37]) rfl ?_); at_builtin; refine Kd.R_append (Kd.int .i64) w.heap.size rfl (.tmp 34) (.tmp 37) 22 3 (.int .i64 0) 8 rfl Try.underlying22 info3 rfl (by decide) (by omega) (.slice Ao29 x5_1.length co29) x5_1 t988 [.int .i64 t988] (fun _ => True) (fun _ => False) rfl rfl ?aP (fun _ hk => hk.elim) ?aF ?aO (Below.refl _ _) ?aS ?aL ?_; (case aP => exact rfl); (case aF => exact (fun _ _ => trivial)); (case aO => exact (ru HO_5.out)); (case aS => exact (keep_size (w := w) (g := g) (row := none) z96_3)); (case aL => have := LMc28.out; omega); intro v991 w32 ho hb hg hat; rw [← Ny990.out] at ho; have n0_ := am_ (IsS116.grown z96_4 hg (IsS116.own_ne HI0.out HO_5.out (by decide))); have n1_ := am_ (below_weaken z96_5 HL.out hb); have n2_ := am_ (KeepBut.trans z96_3 (KeepBut.of_grown hg g) (Kd.R_base2 HO_5.out)); have n3_ := am_ (ho); clear HI0 HB HK HO_5; have HI0 := n0_; have HB := n1_; have HK := n2_; have HO992 := n3_; clear n0_ n1_ n2_ n3_; clear ho hb hg hat))
      go_ret
      exact ⟨_, z96_2, ru HO992.out, z96_4, z96_5, z96_3⟩
     ·rw [if_neg c28] at H
      exact absurd H (by simp)
    ·rw [if_neg c26] at H
     have c26b0 : (t986 == 0) = false := beq_eq_false_iff_ne.mpr c26
     have c26b1 : (t986 != 0) = true := bne_iff_ne.mpr c26
     simp only [Option.some.injEq, Prod.mk.injEq] at H
     obtain ⟨rfl, rfl⟩ := H
     obtain ⟨Ao33, co33, eo33⟩ := Kd.R_slice HO_5.out
     subst eo33
     go_wp2_with (first | ((with_reducible refine gate_callee (f := 71) rfl ?_); refine goesL_ (some 32) rfl rfl Try.func71 (by kernel_rfl) rfl #[.pointer (some ⟨g, 0, none⟩), .int .i64 20] rfl (by (try simp only [List.map_toArray, List.map_cons, List.map_nil]); first | done | rfl | (simp only [List.length_drop, List.length_take]; rfl)) ?_; (with_reducible refine (spec_l6Rd_pick.calls k1 g s0_0 x1001_1 20 t986 t987 w0 _ ?side1 ?side2 A25.out).mono ?_); (case side1 => repeat (first | (with_reducible first | exact HI0.out | apply IsS116.alloc | apply IsS116.drewN | apply IsS116.drew | apply IsS116.set_1) | exact HI0.out)); (case side2 => repeat (first | (with_reducible first | exact HB.out | apply below_alloc | apply pw_below_drewN | apply below_drew1 | refine below_set ?_ (IsS116.ge HI0.out)) | exact HB.out)); rintro e w34 ⟨rfl, hi, hb, hk⟩; refine ⟨_, rfl, ?_⟩; have n0_ := am_ (Kd.R_mono (Kd.R_keep (IsS116.apart (show IsS116 w0 _ g s0_0 x1001_1 from by repeat (first | (with_reducible first | exact HI0.out | apply IsS116.alloc | apply IsS116.drewN | apply IsS116.drew | apply IsS116.set_1) | exact HI0.out)) (ru HO_5.out) (by decide)) hk (fun _ h => h.2)) (fun _ h => h.1)); have n1_ := am_ (KeepBut.trans z96_3 hk (.inl rfl)); have n2_ := am_ (hb); have n3_ := am_ (hi); clear HO_5 HK HB HI0; have HO_5 := n0_; have HK := n1_; have HB := n2_; have HI0 := n3_; clear n0_ n1_ n2_ n3_; (try clear hb); (try clear hb2); (try clear hk); (try clear hi)))
     go_ret
     exact ⟨_, z96_2, ru HO_5.out, z96_4, z96_5, z96_3⟩

end Go.Proofs.Ytefkbmhkhpekjaa.PB

namespace Go.Proofs.Ytefkbmhkhpekjaa.PB
open Go.RowKit Go.Proofs.YtefkbmhkhpekjaaW.PrintWords Go.Proofs.YtefkbmhkhpekjaaW.PrintLast Go.Proofs.YtefkbmhkhpekjaaW.PrintMore
attribute [local go_sem] max2_int min2_int max_two min_two max_three min_three max_four min_four   -- for this text's walks alone
open Go.Proofs.YtefkbmhkhpekjaaMine
set_option linter.unusedVariables false
set_option linter.unusedSimpArgs false

theorem z57_1 {p : Prop} (h : p := by repeat (first | (with_reducible first | exact HB.out | apply below_alloc | apply pw_below_drewN | apply below_drew1) | exact HB.out)) : p := h
theorem z57_2 {p : Prop} (h : p := by repeat (first | (with_reducible first | exact HB.out | apply below_alloc | apply pw_below_drewN | apply below_drew1 | refine below_set ?_ (IsS116.ge HI1162.out) | refine below_set ?_ GE1159.out) | exact HB.out)) : p := h
/-! ### spec_DrawTurnPlaces: function 57 -/
def spec_DrawTurnPlaces.f (k : Nat) (l0 : List Int) : Option ((List (List (S85))) × List Int) := (spec_l6Open.f l0).bind fun bt1160 => ((spec_l71Any.f k bt1160.1 bt1160.2).bind fun bt1163 => ((spec_l71Row.f k bt1160.1 bt1163.2 3).bind fun bt1167 => (some (bt1163.1, bt1167.1))))
theorem spec_DrawTurnPlaces.mono : ∀ a0 k, LeO (spec_DrawTurnPlaces.f k a0) (spec_DrawTurnPlaces.f (k + 1) a0) := by
  intro a0 k
  unfold spec_DrawTurnPlaces.f
  repeat' first
      | (with_reducible exact spec_l71Any.mono _ _ _)
      | (with_reducible exact spec_l71Row.mono _ _ _ _)
      | (with_reducible exact LeO.refl _)
      | (with_reducible exact LeO.none _)
      | (with_reducible refine LeO.ite ?_ ?_)
      | (with_reducible refine LeO.bind ?_ (fun _ => ?_))
      | exact spec_l71Any.mono _ _ _
      | exact spec_l71Row.mono _ _ _ _
      | exact LeO.none _
      | refine LeO.ite ?_ ?_
      | refine LeO.bind ?_ (fun _ => ?_)
set_option maxHeartbeats 8000000 in
set_option maxRecDepth 100000 in
theorem spec_DrawTurnPlaces.calls (k : Nat) (A0 : Option Addr) (c0 : Nat) (l0 : List Int) (r1 : List (List (S85))) (r2 : List Int) (w : World) (hr0 : Kd.C (Kd.int .u8) w A0 l0.length l0) (hc0 : l0.length ≤ c0) (h : spec_DrawTurnPlaces.f k l0 = some (r1, r2)) :
  Calls Try.prog 57 #[.slice A0 l0.length c0] w fun e w' => ∃ v0_ v1_ : Value, e = .returned (.tuple #[.agg #[v0_], v1_]) ∧ Kd.N (Kd.slice 85 k85) 82 w' w.heap.size (fun k_ => (w.heap.size ≤ k_) ∧ some k_ ≠ (v1_ : Value).ownBlock) v0_ r1 ∧ Kd.R (Kd.int .i64) 3 w' w.heap.size (fun k_ => (w.heap.size ≤ k_)) v1_ r2 ∧ Below w.heap.size w w' := by
 have hu35 := Try.underlying35
 have HR0 := am_ hr0
 have HC0 := am_ hc0
 clear hr0 hc0
 have HB := am_ (Below.refl w.heap.size w)
 have H : ((spec_l6Open.f l0).bind fun bt1160 => ((spec_l71Any.f k bt1160.1 bt1160.2).bind fun bt1163 => ((spec_l71Row.f k bt1160.1 bt1163.2 3).bind fun bt1167 => (some (bt1163.1, bt1167.1))))) = some (r1, r2) := h
 clear h
 replace H := Option.bind_eq_some_iff.mp H
 obtain ⟨⟨t1160, t1161⟩, A20, H⟩ := H
 replace H : ((spec_l71Any.f k t1160 t1161).bind fun bt1163 => ((spec_l71Row.f k t1160 bt1163.2 3).bind fun bt1167 => (some (bt1163.1, bt1167.1)))) = some (r1, r2) := H
 have A2 := am_ A20
 clear A20
 replace H := Option.bind_eq_some_iff.mp H
 obtain ⟨⟨t1163, t1166⟩, A30, H⟩ := H
 replace H : ((spec_l71Row.f k t1160 t1166 3).bind fun bt1167 => (some (t1163, bt1167.1))) = some (r1, r2) := H
 have A3 := am_ A30
 clear A30
 replace H := Option.bind_eq_some_iff.mp H
 obtain ⟨⟨t1167, t1170⟩, A40, H⟩ := H
 replace H : (some (t1163, t1167)) = some (r1, r2) := H
 have A4 := am_ A40
 clear A40
 simp only [Option.some.injEq, Prod.mk.injEq] at H
 obtain ⟨rfl, rfl⟩ := H
 go_enter Try.func57, Try.ntmps57
 go_wp2_with (first | ((with_reducible refine gate_dst (N := 2) rfl ?_); refine box_event ?hg (N := 2) ?hd (cs := #[.slice none 0 0]) (t := 35) ?hr ?_; (case hd => rfl); (case hg => rfl); (case hr => first | (go_simp; done) | (go_simp; rfl)); intro gb1159 hg w5 hbox hb; have n0_ := am_ (below_step z57_1 hb); have n1_ := am_ (hbox); have n2_ := am_ (by rw [hg]; exact (below_size z57_1) : w.heap.size ≤ gb1159); have n3_ := am_ (by rw [hg]; exact (below_size z57_1) : w.heap.size ≤ gb1159); clear HB; have HB := n0_; have BK1159 := n1_; have GW1159 := n2_; have GE1159 := n3_; clear n0_ n1_ n2_ n3_; clear hb hbox hg) | ((with_reducible refine gate_callee (f := 70) rfl ?_); refine goesL_ (some 6) rfl rfl Try.func70 (by kernel_rfl) rfl #[.slice A0 l0.length c0] rfl (by (try simp only [List.map_toArray, List.map_cons, List.map_nil]); first | done | rfl | (simp only [List.length_drop, List.length_take]; rfl)) ?_; (with_reducible refine (spec_l6Open.calls _ _ l0 t1160 t1161 w _ ?side1 ?side2 ?side3 A2.out).mono ?_); (case side1 => repeat (first | (with_reducible first | exact HB.out | apply below_alloc | apply pw_below_drewN | apply below_drew1 | refine below_set ?_ GE1159.out) | exact HB.out)); (case side2 => exact HR0.out); (case side3 => exact HC0.out); rintro e w6 ⟨g1162, rfl, hi, hb, hb2⟩; refine ⟨_, rfl, ?_⟩; have n0_ := am_ (blk_below (bu BK1159.out) hb2); have n1_ := am_ (hb); have n2_ := am_ (hi); have n3_ := am_ (IsS116.ne_blk hi (blk_below (bu BK1159.out) hb2) (by decide)); have n4_ := am_ (Ne.symm (IsS116.ne_blk hi (blk_below (bu BK1159.out) hb2) (by decide))); clear BK1159 HB; have BK1159 := n0_; have HB := n1_; have HI1162 := n2_; have NB1162_1159 := n3_; have NB1159_1162 := n4_; clear n0_ n1_ n2_ n3_ n4_; (try clear hb); (try clear hb2); (try clear hk); (try clear hi)) | ((with_reducible refine gate_callee (f := 92) rfl ?_); refine goesL_ (some 8) rfl rfl Try.func92 (by kernel_rfl) rfl #[.pointer (some ⟨g1162, 0, none⟩)] rfl (by (try simp only [List.map_toArray, List.map_cons, List.map_nil]); first | done | rfl | (simp only [List.length_drop, List.length_take]; rfl)) ?_; (with_reducible refine (spec_l71Any.calls k g1162 t1160 t1161 t1163 t1166 w _ ?side1 ?side2 A3.out).mono ?_); (case side1 => repeat (first | (with_reducible first | exact HI1162.out | apply IsS116.alloc | apply IsS116.drewN | apply IsS116.drew | apply IsS116.set_1 | refine IsS116.far ?_ NB1162_1159.out _) | exact HI1162.out)); (case side2 => repeat (first | (with_reducible first | exact HB.out | apply below_alloc | apply pw_below_drewN | apply below_drew1 | refine below_set ?_ (IsS116.ge HI1162.out) | refine below_set ?_ GE1159.out) | exact HB.out)); rintro e w7 ⟨v1164, rfl, ho0, hi, hb, hk⟩; refine ⟨_, rfl, ?_⟩; have n0_ := am_ (KeepBut.blk hk (bu BK1159.out) NB1159_1162.out (by simp)); have n1_ := am_ (Kd.N_lower (Kd.N_mono (ok' := fun k_ => (w.heap.size ≤ k_) ∧ k_ ≠ gb1159 ∧ k_ ≠ g1162) ho0 (fun k_ hk_ => ⟨(Nat.le_trans (below_size z57_2) hk_), (Kd.freshB (bu BK1159.out) k_ hk_), (IsS116.fresh (by repeat (first | (with_reducible first | exact HI1162.out | apply IsS116.alloc | apply IsS116.drewN | apply IsS116.drew | apply IsS116.set_1 | refine IsS116.far ?_ NB1162_1159.out _) | exact HI1162.out)) k_ hk_)⟩)) (below_size z57_2)); have n2_ := am_ (hb); have n3_ := am_ (hi); clear BK1159 HB HI1162; have BK1159 := n0_; have HO1165 := n1_; have HB := n2_; have HI1162 := n3_; clear n0_ n1_ n2_ n3_; (try clear hb); (try clear hb2); (try clear hk); (try clear hi); (try clear ho0)) | ((with_reducible refine gate_callee (f := 96) rfl ?_); refine goesL_ (some 10) rfl rfl Try.func96 (by kernel_rfl) rfl #[.pointer (some ⟨g1162, 0, none⟩), .int .i64 3] rfl (by (try simp only [List.map_toArray, List.map_cons, List.map_nil]); first | done | rfl | (simp only [List.length_drop, List.length_take]; rfl)) ?_; (with_reducible refine (spec_l71Row.calls k g1162 t1160 t1166 3 t1167 t1170 w _ ?side1 ?side2 A4.out).mono ?_); (case side1 => repeat (first | (with_reducible first | exact HI1162.out | apply IsS116.alloc | apply IsS116.drewN | apply IsS116.drew | apply IsS116.set_1 | refine IsS116.far ?_ NB1162_1159.out _) | exact HI1162.out)); (case side2 => repeat (first | (with_reducible first | exact HB.out | apply below_alloc | apply pw_below_drewN | apply below_drew1 | refine below_set ?_ (IsS116.ge HI1162.out) | refine below_set ?_ GE1159.out) | exact HB.out)); rintro e w8 ⟨v1168, rfl, ho0, hi, hb, hk⟩; refine ⟨_, rfl, ?_⟩; have n0_ := am_ (KeepBut.blk hk (bu BK1159.out) NB1159_1162.out (by simp)); have n1_ := am_ (Kd.N_mono (Kd.N_told (Kd.N_oldK (Kd.N_mono (ok := fun k_ => (((w.heap.size ≤ k_)) ∧ (k_ ≠ gb1159 ∧ k_ ≠ g1162))) (nu HO1165.out) (fun k_ hk_ => (⟨hk_, hk_.2.2⟩ : _ ∧ k_ ≠ g1162))) hk) (Kd.R_base ho0)) (fun _ h_ => h_.1)); have n2_ := am_ (Kd.R_lower (Kd.R_newM (M := fun k_ => (w.heap.size ≤ k_)) ho0 (below_size z57_2) (fun k_ h_ => h_)) (below_size z57_2)); have n3_ := am_ (hb); have n4_ := am_ (hi); clear BK1159 HO1165 HB HI1162; have BK1159 := n0_; have HO1165 := n1_; have HO1169 := n2_; have HB := n3_; have HI1162 := n4_; clear n0_ n1_ n2_ n3_ n4_; (try clear hb); (try clear hb2); (try clear hk); (try clear hi); (try clear ho0); obtain ⟨Ao9, co9, eo9⟩ := Kd.N_slice HO1165.out; subst eo9; have hnb10 := NB1159_1162.out; have hnc10 := NB1162_1159.out; have hcz11_0 : w8.cell? ⟨gb1159, 0, none⟩ = some (.slice none 0 0) := (blk_cell BK1159.out 0).trans rfl; have hfz11_0 := blk_frozen BK1159.out 0))
 refine bodyPost_ret (results_ct rfl _ _ gb1159 35 #[.slice Ao9 t1163.length co9] (0, 0) _ rfl (by (with_reducible repeat (first | refine blk_drewN ?_ _ | refine blk_drew ?_ | refine blk_alloc ?_ _)); refine blk_put (cs := #[.slice none 0 0]) ?_ 0 _ rfl; (with_reducible repeat (first | refine blk_drewN ?_ _ | refine blk_drew ?_ | refine blk_alloc ?_ _)); exact BK1159.out) Try.underlying35 rfl (by kernel_rfl)) rfl ?_
 exact ⟨_, _, by first | rfl | (simp [errW_none, errW_some] <;> rfl) | (simp [*, errW_none, errW_some] <;> rfl), nu (Kd.N_mono (Kd.N_far (p := ⟨gb1159, 0, none⟩) (Kd.N_mono HO1165.out (fun k_ hk => (⟨hk, hk.1.2.1⟩ : _ ∧ k_ ≠ gb1159))) (fun _ hk => hk.2) (.slice Ao9 t1163.length co9)) (fun _ hk => ⟨hk.1.1.1, hk.1.2⟩)), ru (Kd.R_mono (Kd.R_far (p := ⟨gb1159, 0, none⟩) (Kd.R_types HO1169.out BK1159.out (by decide)) (fun _ hk => hk.2) (.slice Ao9 t1163.length co9)) (fun _ hk => hk.1.1)), z57_2⟩

end Go.Proofs.Ytefkbmhkhpekjaa.PB

namespace Go.Proofs.Ytefkbmhkhpekjaa.PB
open Go.RowKit Go.Proofs.YtefkbmhkhpekjaaW.PrintWords Go.Proofs.YtefkbmhkhpekjaaW.PrintLast Go.Proofs.YtefkbmhkhpekjaaW.PrintMore
attribute [local go_sem] max2_int min2_int max_two min_two max_three min_three max_four min_four   -- for this text's walks alone
open Go.Proofs.YtefkbmhkhpekjaaMine
set_option linter.unusedVariables false
set_option linter.unusedSimpArgs false

theorem z100_1 {p : Prop} (h : p := by first | rfl | (simp; done) | (simp [*]; done)) : p := h
theorem z100_2 {p : Prop} (h : p := by repeat (first | exact Drawn0.refl _ | apply Drawn0.step)) : p := h
/-! ### spec_l22Row: function 100 -/
def spec_l22Row.l0 : Nat → List Int → Int → Int → Option (Bool)
  | 0, _, _, _ => none
  | k + 1, x0, x1, x5 => if x5 < x1 then ((spec_l12Has.f k x0 x5).bind fun t1020 => (if t1020 = true then (spec_l22Row.l0 k x0 x1 (wrap64 (x5 + 1))) else (some false))) else (some true)
def spec_l22Row.f (k : Nat) (l0 : List Int) (a1 : Int) : Option (Bool) := if (l0.length : Int) = a1 then (spec_l22Row.l0 k l0 a1 0) else (some false)
theorem spec_l22Row.mono_l : ∀ k, (∀ y0 y1 y2, LeO (spec_l22Row.l0 k y0 y1 y2) (spec_l22Row.l0 (k + 1) y0 y1 y2))
  | 0 => fun _ _ _ r h => by simp [spec_l22Row.l0] at h
  | k + 1 => by
    have ih0 := spec_l22Row.mono_l k
    · intro y0 y1 y2
      unfold spec_l22Row.l0
      repeat' first
      | (with_reducible exact ih0 _ _ _)
      | (with_reducible exact spec_l12Has.mono _ _ _)
      | (with_reducible exact LeO.refl _)
      | (with_reducible exact LeO.none _)
      | (with_reducible refine LeO.ite ?_ ?_)
      | (with_reducible refine LeO.bind ?_ (fun _ => ?_))
      | exact ih0 _ _ _
      | exact spec_l12Has.mono _ _ _
      | exact LeO.none _
      | refine LeO.ite ?_ ?_
      | refine LeO.bind ?_ (fun _ => ?_)
theorem spec_l22Row.mono : ∀ a0 a1 k, LeO (spec_l22Row.f k a0 a1) (spec_l22Row.f (k + 1) a0 a1) := by
  intro a0 a1 k
  have ih0 := spec_l22Row.mono_l k
  unfold spec_l22Row.f
  repeat' first
      | (with_reducible exact ih0 _ _ _)
      | (with_reducible exact spec_l12Has.mono _ _ _)
      | (with_reducible exact LeO.refl _)
      | (with_reducible exact LeO.none _)
      | (with_reducible refine LeO.ite ?_ ?_)
      | (with_reducible refine LeO.bind ?_ (fun _ => ?_))
      | exact ih0 _ _ _
      | exact spec_l12Has.mono _ _ _
      | exact LeO.none _
      | refine LeO.ite ?_ ?_
      | refine LeO.bind ?_ (fun _ => ?_)
set_option maxHeartbeats 8000000 in
set_option maxRecDepth 100000 in
theorem spec_l22Row.calls (k : Nat) (A0 : Option Addr) (c0 : Nat) (l0 : List Int) (a1 : Int) (r : Bool) (w : World) (hr0 : Kd.C (Kd.int .i64) w A0 l0.length l0) (hc0 : l0.length ≤ c0) (h : spec_l22Row.f k l0 a1 = some r) :
  Calls Try.prog 100 #[.slice A0 l0.length c0, .int .i64 a1] w fun e w' => e = .returned (.bool r) ∧ Drawn0 w w' := by
 have HR0 := am_ hr0
 have HC0 := am_ hc0
 clear hr0 hc0
 have H : (if (l0.length : Int) = a1 then (spec_l22Row.l0 k l0 a1 0) else (some false)) = some r := h
 clear h
 by_cases c3 : (l0.length : Int) = a1
 ·rw [if_pos c3] at H
  have c3b0 : ((l0.length : Int) == a1) = true := beq_iff_eq.mpr c3
  have c3b1 : ((l0.length : Int) != a1) = false := bne_eq_false_iff_eq.mpr c3
  clear c3
  have H' := am_ H
  clear H
  go_enter Try.func100, Try.ntmps100
  go_wp2
  go_loopg [5] k (fun kq v5 w' => ∃ (x5_1 : Int), v5 = .int .i64 x5_1 ∧ Aside0 (spec_l22Row.l0 kq l0 a1 x5_1 = some r) ∧ Aside0 (kq ≤ k) ∧ Drawn0 w w')
  case atStart => exact ⟨(0), z100_1, H', ⟨Nat.le_refl _⟩, z100_2⟩
  case round =>
   clear H'
   obtain ⟨x5_1, rfl, HA, HK1, ⟨m1, rfl⟩⟩ := hrel
   cases gk with
   | zero => exact absurd HA.out (by simp [spec_l22Row.l0])
   | succ k1 =>
    have H := HA.out
    clear HA
    simp only [spec_l22Row.l0] at H
    by_cases c4 : x5_1 < a1
    ·rw [if_pos c4] at H
     have c4b0 : decide (x5_1 < a1) = true := decide_eq_true c4
     clear c4
     replace H := Option.bind_eq_some_iff.mp H
     obtain ⟨t1020, A50, H⟩ := H
     replace H : (if t1020 = true then (spec_l22Row.l0 k1 l0 a1 (wrap64 (x5_1 + 1))) else (some false)) = some r := H
     have A5 := am_ A50
     clear A50
     by_cases c6 : t1020 = true
     ·subst c6
      have H1 : (spec_l22Row.l0 k1 l0 a1 (wrap64 (x5_1 + 1))) = some r := by rw [if_pos rfl] at H; exact H
      clear H
      have H := H1
      clear H1
      have H' := am_ H
      clear H
      go_wp2_with (first | ((with_reducible refine gate_callee (f := 101) rfl ?_); refine goesL_ (some 17) rfl rfl Try.func101 (by kernel_rfl) rfl #[.slice A0 l0.length c0, .int .i64 x5_1] rfl (by (try simp only [List.map_toArray, List.map_cons, List.map_nil]); first | done | rfl | (simp only [List.length_drop, List.length_take]; rfl)) ?_; (with_reducible refine (spec_l12Has.calls k1 _ _ l0 x5_1 true _ ?side1 ?side2 A5.out).mono ?_); (case side1 => repeat (first | exact HR0.out | (with_reducible refine Kd.C_alloc ?_ _) | (with_reducible refine Kd.C_drewN ?_ _) | (with_reducible refine Kd.C_drew ?_))); (case side2 => exact HC0.out); rintro e w' ⟨rfl, ⟨nd, rfl⟩⟩; refine ⟨_, rfl, ?_⟩))
      go_roundg k1
      case measure => have := HK1.out; omega
      case rel => exact ⟨(wrap64 (x5_1 + 1)), z100_1, H', ⟨by have := HK1.out; omega⟩, z100_2⟩
     ·replace c6 := Bool.eq_false_iff.mpr c6
      subst c6
      have H1 : (some false) = some r := by rw [if_neg (show ¬ (false = true) by decide)] at H; exact H
      clear H
      have H := H1
      clear H1
      obtain rfl := Option.some.inj H
      go_wp2_with (first | ((with_reducible refine gate_callee (f := 101) rfl ?_); refine goesL_ (some 17) rfl rfl Try.func101 (by kernel_rfl) rfl #[.slice A0 l0.length c0, .int .i64 x5_1] rfl (by (try simp only [List.map_toArray, List.map_cons, List.map_nil]); first | done | rfl | (simp only [List.length_drop, List.length_take]; rfl)) ?_; (with_reducible refine (spec_l12Has.calls k1 _ _ l0 x5_1 false _ ?side1 ?side2 A5.out).mono ?_); (case side1 => repeat (first | exact HR0.out | (with_reducible refine Kd.C_alloc ?_ _) | (with_reducible refine Kd.C_drewN ?_ _) | (with_reducible refine Kd.C_drew ?_))); (case side2 => exact HC0.out); rintro e w' ⟨rfl, ⟨nd, rfl⟩⟩; refine ⟨_, rfl, ?_⟩))
      go_ret
      exact ⟨z100_1, z100_2⟩
    ·rw [if_neg c4] at H
     have c4b0 : decide (x5_1 < a1) = false := decide_eq_false c4
     clear c4
     obtain rfl := Option.some.inj H
     go_wp2
     go_ret
     exact ⟨z100_1, z100_2⟩
 ·rw [if_neg c3] at H
  have c3b0 : ((l0.length : Int) == a1) = false := beq_eq_false_iff_ne.mpr c3
  have c3b1 : ((l0.length : Int) != a1) = true := bne_iff_ne.mpr c3
  obtain rfl := Option.some.inj H
  go_enter Try.func100, Try.ntmps100
  go_wp2
  go_ret
  exact ⟨z100_1, z100_2⟩

end Go.Proofs.Ytefkbmhkhpekjaa.PB

namespace Go.Proofs.Ytefkbmhkhpekjaa.PB
open Go.RowKit Go.Proofs.YtefkbmhkhpekjaaW.PrintWords Go.Proofs.YtefkbmhkhpekjaaW.PrintLast Go.Proofs.YtefkbmhkhpekjaaW.PrintMore
attribute [local go_sem] max2_int min2_int max_two min_two max_three min_three max_four min_four   -- for this text's walks alone
open Go.Proofs.YtefkbmhkhpekjaaMine
set_option linter.unusedVariables false
set_option linter.unusedSimpArgs false

theorem z58_1 {p : Prop} (h : p := by first | rfl | (simp; done) | (simp [*]; done)) : p := h
theorem z58_2 {p : Prop} (h : p := by first | (with_reducible assumption) | assumption) : p := h
theorem z58_3 {p : Prop} (h : p := by first | rfl | (simp [errW_none, errW_some] <;> rfl) | (simp [*, errW_none, errW_some] <;> rfl)) : p := h
theorem z58_4 {p : Prop} (h : p := by repeat (first | (with_reducible first | exact HB.out | apply below_alloc | apply pw_below_drewN | apply below_drew1) | exact HB.out)) : p := h
theorem z58_5 {p : Prop} (h : p := by first | exact Kd.S_nil _ _ _ _ _ | exact Kd.N_nil _ _ _ _ _ | exact Kd.V_nil _ _ _ _ _ | exact Kd.Q_nil _ _ _ _ _ | exact Kd.R_nil _ _ _ _ _) : p := h
theorem z58_6 {p : Prop} (h : p := by repeat (first | (with_reducible first | exact HB.out | apply below_alloc | apply pw_below_drewN | apply below_drew1 | refine below_set ?_ GE1171.out) | exact HB.out)) : p := h
theorem z58_7 {p : Prop} (h : p := by repeat (first | (with_reducible first | exact HB.out | apply below_alloc | apply pw_below_drewN | apply below_drew1 | refine below_set ?_ GE1171.out | refine below_set ?_ GE1172.out) | exact HB.out)) : p := h
theorem z58_8 {p : Prop} (h : p := by repeat (first | (with_reducible first | exact HB.out | apply below_alloc | apply pw_below_drewN | apply below_drew1 | refine below_set ?_ GE1171.out | refine below_set ?_ GE1172.out | refine below_set ?_ GE1175.out) | exact HB.out)) : p := h
theorem z58_9 {p : Prop} (h : p := by (with_reducible repeat (first | refine blk_drewN ?_ _ | refine blk_drew ?_ | refine blk_alloc ?_ _)); refine blk_far ?_ NB1171_1175.out _; (with_reducible repeat (first | refine blk_drewN ?_ _ | refine blk_drew ?_ | refine blk_alloc ?_ _)); exact BK1171.out) : p := h
theorem z58_10 {p : Prop} (h : p := by (with_reducible repeat (first | refine blk_drewN ?_ _ | refine blk_drew ?_ | refine blk_alloc ?_ _)); refine blk_far ?_ NB1172_1175.out _; (with_reducible repeat (first | refine blk_drewN ?_ _ | refine blk_drew ?_ | refine blk_alloc ?_ _)); exact BK1172.out) : p := h
theorem z58_11 {p : Prop} (h : p := by (with_reducible repeat (first | refine blk_drewN ?_ _ | refine blk_drew ?_ | refine blk_alloc ?_ _)); refine blk_put (cs := #[.slice none 0 0]) ?_ 0 _ rfl; (with_reducible repeat (first | refine blk_drewN ?_ _ | refine blk_drew ?_ | refine blk_alloc ?_ _)); exact BK1172.out) : p := h
/-! ### spec_TurnPlaces: function 58 -/
mutual
def spec_TurnPlaces.j0 : Nat → List Int → Bool → List (List (S85)) → Option ((List (List (S85))) × Bool)
  | 0, _, _, _ => none
  | k + 1, x1, x17, x1172000 => if x17 = true then (some (([] : List (List (S85))), false)) else (spec_TurnPlaces.l0 k x1 0 x1172000 ([] : List (List (S85))))
def spec_TurnPlaces.l0 : Nat → List Int → Int → List (List (S85)) → List (List (S85)) → Option ((List (List (S85))) × Bool)
  | 0, _, _, _, _ => none
  | k + 1, x1, x7, x1172000, x1176000 => if x7 < (x1172000.length : Int) then ((some (([] : List (S85)) : List (S85))).bind fun y1176 => (if 0 ≤ x7 then (if y1176.length + (rd_L7 x1172000 x7).length < 5864062014805 then (spec_TurnPlaces.l1 k x1 x7 (y1176 ++ (rd_L7 x1172000 x7)) 0 x1172000 x1176000) else (none)) else (none))) else (some (x1176000, true))
def spec_TurnPlaces.l1 : Nat → List Int → Int → List (S85) → Int → List (List (S85)) → List (List (S85)) → Option ((List (List (S85))) × Bool)
  | 0, _, _, _, _, _, _ => none
  | k + 1, x1, x7, x8, x9, x1172000, x1176000 => if x9 < (x8.length : Int) then (if 0 ≤ x9 then ((spec_l1Reads.f ((rd_T85 x8 x9).f0) ((rd_T85 x8 x9).f1) ((rd_T85 x8 x9).f2)).bind fun t1187 => (if t1187 = true then (if 0 ≤ ((rd_T85 x8 x9).f1) then (if ((rd_T85 x8 x9).f1) < (x1.length : Int) then (spec_TurnPlaces.l1 k x1 x7 (x8.set (x9 : Int).toNat (⟨(rd_T85 x8 x9).f0, rd x1 ((rd_T85 x8 x9).f1), (rd_T85 x8 x9).f2⟩ : S85)) (wrap64 (x9 + 1)) x1172000 x1176000) else (none)) else (none)) else ((spec_l1Writes.f ((rd_T85 x8 x9).f0) ((rd_T85 x8 x9).f1) ((rd_T85 x8 x9).f2)).bind fun t1192 => (if t1192 = true then (if 0 ≤ ((rd_T85 x8 x9).f1) then (if ((rd_T85 x8 x9).f1) < (x1.length : Int) then (spec_TurnPlaces.l1 k x1 x7 (x8.set (x9 : Int).toNat (⟨(rd_T85 x8 x9).f0, rd x1 ((rd_T85 x8 x9).f1), (rd_T85 x8 x9).f2⟩ : S85)) (wrap64 (x9 + 1)) x1172000 x1176000) else (none)) else (none)) else (spec_TurnPlaces.l1 k x1 x7 x8 (wrap64 (x9 + 1)) x1172000 x1176000))))) else (none)) else (if x1176000.length < 5864062014805 then (spec_TurnPlaces.l0 k x1 (wrap64 (x7 + 1)) x1172000 (x1176000 ++ [x8])) else (none))
end
def spec_TurnPlaces.f (k : Nat) (l0_0 : List (List (S85))) (l1 : List Int) : Option ((List (List (S85))) × Bool) := (spec_ProgOk.f k l0_0).bind fun t1173 => (if t1173 = true then ((spec_l22Row.f k l1 3).bind fun t1174 => (spec_TurnPlaces.j0 k l1 (!t1174) l0_0)) else (spec_TurnPlaces.j0 k l1 true l0_0))
theorem spec_TurnPlaces.mono_l : ∀ k, (∀ y0 y1 y2, LeO (spec_TurnPlaces.j0 k y0 y1 y2) (spec_TurnPlaces.j0 (k + 1) y0 y1 y2)) ∧ (∀ y0 y1 y2 y3, LeO (spec_TurnPlaces.l0 k y0 y1 y2 y3) (spec_TurnPlaces.l0 (k + 1) y0 y1 y2 y3)) ∧ (∀ y0 y1 y2 y3 y4 y5, LeO (spec_TurnPlaces.l1 k y0 y1 y2 y3 y4 y5) (spec_TurnPlaces.l1 (k + 1) y0 y1 y2 y3 y4 y5))
  | 0 => ⟨fun _ _ _ r h => by simp [spec_TurnPlaces.j0] at h, fun _ _ _ _ r h => by simp [spec_TurnPlaces.l0] at h, fun _ _ _ _ _ _ r h => by simp [spec_TurnPlaces.l1] at h⟩
  | k + 1 => by
    obtain ⟨ih0, ih1, ih2⟩ := spec_TurnPlaces.mono_l k
    refine ⟨?_, ?_, ?_⟩
    · intro y0 y1 y2
      unfold spec_TurnPlaces.j0
      repeat' first
      | (with_reducible exact ih0 _ _ _)
      | (with_reducible exact ih1 _ _ _ _)
      | (with_reducible exact ih2 _ _ _ _ _ _)
      | (with_reducible exact spec_ProgOk.mono _ _)
      | (with_reducible exact spec_l22Row.mono _ _ _)
      | (with_reducible exact LeO.refl _)
      | (with_reducible exact LeO.none _)
      | (with_reducible refine LeO.ite ?_ ?_)
      | (with_reducible refine LeO.bind ?_ (fun _ => ?_))
      | exact ih0 _ _ _
      | exact ih1 _ _ _ _
      | exact ih2 _ _ _ _ _ _
      | exact spec_ProgOk.mono _ _
      | exact spec_l22Row.mono _ _ _
      | exact LeO.none _
      | refine LeO.ite ?_ ?_
      | refine LeO.bind ?_ (fun _ => ?_)
    · intro y0 y1 y2 y3
      unfold spec_TurnPlaces.l0
      repeat' first
      | (with_reducible exact ih0 _ _ _)
      | (with_reducible exact ih1 _ _ _ _)
      | (with_reducible exact ih2 _ _ _ _ _ _)
      | (with_reducible exact spec_ProgOk.mono _ _)
      | (with_reducible exact spec_l22Row.mono _ _ _)
      | (with_reducible exact LeO.refl _)
      | (with_reducible exact LeO.none _)
      | (with_reducible refine LeO.ite ?_ ?_)
      | (with_reducible refine LeO.bind ?_ (fun _ => ?_))
      | exact ih0 _ _ _
      | exact ih1 _ _ _ _
      | exact ih2 _ _ _ _ _ _
      | exact spec_ProgOk.mono _ _
      | exact spec_l22Row.mono _ _ _
      | exact LeO.none _
      | refine LeO.ite ?_ ?_
      | refine LeO.bind ?_ (fun _ => ?_)
    · intro y0 y1 y2 y3 y4 y5
      unfold spec_TurnPlaces.l1
      repeat' first
      | (with_reducible exact ih0 _ _ _)
      | (with_reducible exact ih1 _ _ _ _)
      | (with_reducible exact ih2 _ _ _ _ _ _)
      | (with_reducible exact spec_ProgOk.mono _ _)
      | (with_reducible exact spec_l22Row.mono _ _ _)
      | (with_reducible exact LeO.refl _)
      | (with_reducible exact LeO.none _)
      | (with_reducible refine LeO.ite ?_ ?_)
      | (with_reducible refine LeO.bind ?_ (fun _ => ?_))
      | exact ih0 _ _ _
      | exact ih1 _ _ _ _
      | exact ih2 _ _ _ _ _ _
      | exact spec_ProgOk.mono _ _
      | exact spec_l22Row.mono _ _ _
      | exact LeO.none _
      | refine LeO.ite ?_ ?_
      | refine LeO.bind ?_ (fun _ => ?_)
theorem spec_TurnPlaces.mono : ∀ a0 a1 k, LeO (spec_TurnPlaces.f k a0 a1) (spec_TurnPlaces.f (k + 1) a0 a1) := by
  intro a0 a1 k
  obtain ⟨ih0, ih1, ih2⟩ := spec_TurnPlaces.mono_l k
  unfold spec_TurnPlaces.f
  repeat' first
      | (with_reducible exact ih0 _ _ _)
      | (with_reducible exact ih1 _ _ _ _)
      | (with_reducible exact ih2 _ _ _ _ _ _)
      | (with_reducible exact spec_ProgOk.mono _ _)
      | (with_reducible exact spec_l22Row.mono _ _ _)
      | (with_reducible exact LeO.refl _)
      | (with_reducible exact LeO.none _)
      | (with_reducible refine LeO.ite ?_ ?_)
      | (with_reducible refine LeO.bind ?_ (fun _ => ?_))
      | exact ih0 _ _ _
      | exact ih1 _ _ _ _
      | exact ih2 _ _ _ _ _ _
      | exact spec_ProgOk.mono _ _
      | exact spec_l22Row.mono _ _ _
      | exact LeO.none _
      | refine LeO.ite ?_ ?_
      | refine LeO.bind ?_ (fun _ => ?_)
set_option maxHeartbeats 8000000 in
set_option maxRecDepth 100000 in
theorem spec_TurnPlaces.calls (k : Nat) (A0_0 : Option Addr) (c0_0 : Nat) (l0_0 : List (List (S85))) (A1 : Option Addr) (c1 : Nat) (l1 : List Int) (r1 : List (List (S85))) (r2 : Bool) (w : World) (hr0_0 : Kd.C (Kd.slice 85 k85) w A0_0 l0_0.length l0_0) (hc0_0 : l0_0.length ≤ c0_0) (hr1 : Kd.C (Kd.int .i64) w A1 l1.length l1) (hc1 : l1.length ≤ c1) (h : spec_TurnPlaces.f k l0_0 l1 = some (r1, r2)) :
  Calls Try.prog 58 #[.agg #[.slice A0_0 l0_0.length c0_0], .slice A1 l1.length c1] w fun e w' => ∃ v0_ : Value, e = .returned (.tuple #[.agg #[v0_], .bool r2]) ∧ Kd.S (Kd.slice 85 k85) 82 w' w.heap.size (fun _ => True) v0_ r1 ∧ Below w.heap.size w w' := by
 have hu35 := Try.underlying35
 have hu85 := Try.underlying85
 have HR0_0 := am_ hr0_0
 have HC0_0 := am_ hc0_0
 clear hr0_0 hc0_0
 have HR1 := am_ hr1
 have HC1 := am_ hc1
 clear hr1 hc1
 have HB := am_ (Below.refl w.heap.size w)
 have H : ((spec_ProgOk.f k l0_0).bind fun t1173 => (if t1173 = true then ((spec_l22Row.f k l1 3).bind fun t1174 => (spec_TurnPlaces.j0 k l1 (!t1174) l0_0)) else (spec_TurnPlaces.j0 k l1 true l0_0))) = some (r1, r2) := h
 clear h
 have HC3 := am_ H
 clear H
 go_enter Try.func58, Try.ntmps58
 go_upto_region 1 with (first | ((with_reducible refine gate_dst (N := 2) rfl ?_); refine box_event ?hg (N := 2) ?hd (cs := #[.slice A0_0 l0_0.length c0_0]) (t := 35) ?hr ?_; (case hd => rfl); (case hg => rfl); (case hr => first | (go_simp; done) | (go_simp; rfl)); intro gb1171 hg w4 hbox hb; have n0_ := am_ (below_step z58_4 hb); have n1_ := am_ (hbox); have n2_ := am_ (by rw [hg]; exact (below_size z58_4) : w.heap.size ≤ gb1171); have n3_ := am_ (by rw [hg]; exact (below_size z58_4) : w.heap.size ≤ gb1171); clear HB; have HB := n0_; have BK1171 := n1_; have GW1171 := n2_; have GE1171 := n3_; clear n0_ n1_ n2_ n3_; clear hb hbox hg) | ((with_reducible refine gate_dst (N := 4) rfl ?_); refine box_event ?hg (N := 4) ?hd (cs := #[.slice none 0 0]) (t := 35) ?hr ?_; (case hd => rfl); (case hg => rfl); (case hr => first | (go_simp; done) | (go_simp; rfl)); intro gb1172 hg w5 hbox hb; have n0_ := am_ (blk_below (bu BK1171.out) hb); have n1_ := am_ (below_step z58_6 hb); have n2_ := am_ (hbox); have n3_ := am_ (by rw [hg]; exact (below_size z58_6) : w.heap.size ≤ gb1172); have n4_ := am_ (by rw [hg]; exact (below_size z58_6) : w.heap.size ≤ gb1172); have n5_ := am_ (by rw [hg]; exact Nat.ne_of_lt (blk_lt (bu BK1171.out)) : gb1171 ≠ gb1172); have n6_ := am_ (by rw [hg]; exact Nat.ne_of_gt (blk_lt (bu BK1171.out)) : gb1172 ≠ gb1171); clear BK1171 HB; have BK1171 := n0_; have HB := n1_; have BK1172 := n2_; have GW1172 := n3_; have GE1172 := n4_; have NB1171_1172 := n5_; have NB1172_1171 := n6_; clear n0_ n1_ n2_ n3_ n4_ n5_ n6_; clear hb hbox hg))
 (try simp only [Act.put, List.setIfInBounds_toArray, List.set_cons_zero, List.set_cons_succ])
 go_cut [17] (fun v17 wc => ∃ (kq : Nat) (x17_2 : Bool), v17 = .bool x17_2 ∧ Aside0 (spec_TurnPlaces.j0 kq l1 x17_2 l0_0 = some (r1, r2)) ∧ Aside0 (kq ≤ k) ∧ Aside0 (wc.heap[gb1171]? = some (.cells #[(.slice A0_0 l0_0.length c0_0)] 35 (0, 0))) ∧ Aside0 (wc.heap[gb1172]? = some (.cells #[(.slice none 0 0)] 35 (0, 0))) ∧ Aside0 (Below w.heap.size w wc))
 case first =>
  have H := HC3.out
  clear HC3
  replace H := Option.bind_eq_some_iff.mp H
  obtain ⟨t1173, A60, H⟩ := H
  replace H : (if t1173 = true then ((spec_l22Row.f k l1 3).bind fun t1174 => (spec_TurnPlaces.j0 k l1 (!t1174) l0_0)) else (spec_TurnPlaces.j0 k l1 true l0_0)) = some (r1, r2) := H
  have A6 := am_ A60
  clear A60
  by_cases c7 : t1173 = true
  ·subst c7
   have H1 : ((spec_l22Row.f k l1 3).bind fun t1174 => (spec_TurnPlaces.j0 k l1 (!t1174) l0_0)) = some (r1, r2) := by rw [if_pos rfl] at H; exact H
   clear H
   have H := H1
   clear H1
   replace H := Option.bind_eq_some_iff.mp H
   obtain ⟨t1174, A80, H⟩ := H
   replace H : (spec_TurnPlaces.j0 k l1 (!t1174) l0_0) = some (r1, r2) := H
   have A8 := am_ A80
   clear A80
   have H' := am_ H
   clear H
   have hnb9 := NB1171_1172.out
   have hnc9 := NB1172_1171.out
   have hcz10_0 : w5.cell? ⟨gb1171, 0, none⟩ = some (.slice A0_0 l0_0.length c0_0) := (blk_cell BK1171.out 0).trans rfl
   have hfz10_0 := blk_frozen BK1171.out 0
   go_wp2_with (first | ((with_reducible refine gate_callee (f := 43) rfl ?_); refine goesL_ (some 11) rfl rfl Try.func43 (by kernel_rfl) rfl #[.agg #[.slice A0_0 l0_0.length c0_0]] rfl (by (try simp only [List.map_toArray, List.map_cons, List.map_nil]); first | done | rfl | (simp only [List.length_drop, List.length_take]; rfl)) ?_; (with_reducible refine (spec_ProgOk.calls k _ _ l0_0 true _ ?side1 ?side2 A6.out).mono ?_); (case side1 => repeat (first | exact (Kd.C_below HR0_0.out HB.out) | (with_reducible refine Kd.C_alloc ?_ _) | (with_reducible refine Kd.C_drewN ?_ _) | (with_reducible refine Kd.C_drew ?_))); (case side2 => exact HC0_0.out); rintro e w11 ⟨rfl, hb⟩; refine ⟨_, rfl, ?_⟩; have n0_ := am_ (blk_below (bu BK1171.out) hb); have n1_ := am_ (blk_below (bu BK1172.out) hb); have n2_ := am_ (below_step z58_7 hb); clear BK1171 BK1172 HB; have BK1171 := n0_; have BK1172 := n1_; have HB := n2_; clear n0_ n1_ n2_; (try clear hb); (try clear hb2); (try clear hk); (try clear hi)) | (go_at_call 100; (with_reducible refine (spec_l22Row.calls k _ _ l1 3 t1174 _ ?side1 ?side2 A8.out).mono ?_); (case side1 => repeat (first | exact (Kd.C_below HR1.out HB.out) | (with_reducible refine Kd.C_alloc ?_ _) | (with_reducible refine Kd.C_drewN ?_ _) | (with_reducible refine Kd.C_drew ?_))); (case side2 => exact HC1.out); rintro e w' ⟨rfl, ⟨nd, rfl⟩⟩))
   go_meet
   case rel => exact ⟨_, (!t1174), z58_1, H', ⟨by first | omega | exact Nat.le_refl _⟩, ⟨bu BK1171.out⟩, ⟨bu BK1172.out⟩, ⟨z58_7⟩⟩
  ·replace c7 := Bool.eq_false_iff.mpr c7
   subst c7
   have H1 : (spec_TurnPlaces.j0 k l1 true l0_0) = some (r1, r2) := by rw [if_neg (show ¬ (false = true) by decide)] at H; exact H
   clear H
   have H := H1
   clear H1
   have H' := am_ H
   clear H
   have hnb12 := NB1171_1172.out
   have hnc12 := NB1172_1171.out
   have hcz13_0 : w5.cell? ⟨gb1171, 0, none⟩ = some (.slice A0_0 l0_0.length c0_0) := (blk_cell BK1171.out 0).trans rfl
   have hfz13_0 := blk_frozen BK1171.out 0
   go_wp2_with (first | ((with_reducible refine gate_callee (f := 43) rfl ?_); refine goesL_ (some 11) rfl rfl Try.func43 (by kernel_rfl) rfl #[.agg #[.slice A0_0 l0_0.length c0_0]] rfl (by (try simp only [List.map_toArray, List.map_cons, List.map_nil]); first | done | rfl | (simp only [List.length_drop, List.length_take]; rfl)) ?_; (with_reducible refine (spec_ProgOk.calls k _ _ l0_0 false _ ?side1 ?side2 A6.out).mono ?_); (case side1 => repeat (first | exact (Kd.C_below HR0_0.out HB.out) | (with_reducible refine Kd.C_alloc ?_ _) | (with_reducible refine Kd.C_drewN ?_ _) | (with_reducible refine Kd.C_drew ?_))); (case side2 => exact HC0_0.out); rintro e w14 ⟨rfl, hb⟩; refine ⟨_, rfl, ?_⟩; have n0_ := am_ (blk_below (bu BK1171.out) hb); have n1_ := am_ (blk_below (bu BK1172.out) hb); have n2_ := am_ (below_step z58_7 hb); clear BK1171 BK1172 HB; have BK1171 := n0_; have BK1172 := n1_; have HB := n2_; clear n0_ n1_ n2_; (try clear hb); (try clear hb2); (try clear hk); (try clear hi)))
   go_meet
   case rel => exact ⟨_, (true), z58_1, H', ⟨by first | omega | exact Nat.le_refl _⟩, ⟨bu BK1171.out⟩, ⟨bu BK1172.out⟩, ⟨z58_7⟩⟩
 case rest =>
  clear HC3
  obtain ⟨kq, x17_2, rfl, HA, HJ2, BK1171, BK1172, HB⟩ := hcut
  cases kq with
  | zero => exact absurd HA.out (by simp [spec_TurnPlaces.j0])
  | succ kj2 =>
   have H := HA.out
   clear HA
   simp only [spec_TurnPlaces.j0] at H
   by_cases c15 : x17_2 = true
   ·subst c15
    have H1 : (some (([] : List (List (S85))), false)) = some (r1, r2) := by rw [if_pos rfl] at H; exact H
    clear H
    have H := H1
    clear H1
    simp only [Option.some.injEq, Prod.mk.injEq] at H
    obtain ⟨rfl, rfl⟩ := H
    have hnb16 := NB1172_1171.out
    have hnc16 := NB1171_1172.out
    have hcz17_0 : wc.cell? ⟨gb1172, 0, none⟩ = some (.slice none 0 0) := (blk_cell BK1172.out 0).trans rfl
    have hfz17_0 := blk_frozen BK1172.out 0
    go_wp2
    refine bodyPost_ret (results_ct rfl _ _ gb1172 35 #[.slice none 0 0] (0, 0) _ rfl z58_11 Try.underlying35 rfl (by kernel_rfl)) rfl ?_
    exact ⟨_, z58_3, z58_5, z58_7⟩
   ·replace c15 := Bool.eq_false_iff.mpr c15
    subst c15
    have H1 : (spec_TurnPlaces.l0 kj2 l1 0 l0_0 ([] : List (List (S85)))) = some (r1, r2) := by rw [if_neg (show ¬ (false = true) by decide)] at H; exact H
    clear H
    have H := H1
    clear H1
    have H' := am_ H
    clear H
    go_wp2_with (first | ((with_reducible refine gate_dst (N := 6) rfl ?_); refine box_event ?hg (N := 6) ?hd (cs := #[.slice none 0 0]) (t := 35) ?hr ?_; (case hd => rfl); (case hg => rfl); (case hr => first | (go_simp; done) | (go_simp; rfl)); intro gb1175 hg w18 hbox hb; have n0_ := am_ (blk_below (bu BK1171.out) hb); have n1_ := am_ (blk_below (bu BK1172.out) hb); have n2_ := am_ (below_step z58_7 hb); have n3_ := am_ (hbox); have n4_ := am_ (by rw [hg]; exact (below_size z58_7) : w.heap.size ≤ gb1175); have n5_ := am_ (by rw [hg]; exact (below_size z58_7) : w.heap.size ≤ gb1175); have n6_ := am_ (by rw [hg]; exact Nat.ne_of_lt (blk_lt (bu BK1171.out)) : gb1171 ≠ gb1175); have n7_ := am_ (by rw [hg]; exact Nat.ne_of_gt (blk_lt (bu BK1171.out)) : gb1175 ≠ gb1171); have n8_ := am_ (by rw [hg]; exact Nat.ne_of_lt (blk_lt (bu BK1172.out)) : gb1172 ≠ gb1175); have n9_ := am_ (by rw [hg]; exact Nat.ne_of_gt (blk_lt (bu BK1172.out)) : gb1175 ≠ gb1172); clear BK1171 BK1172 HB; have BK1171 := n0_; have BK1172 := n1_; have HB := n2_; have BK1175 := n3_; have GW1175 := n4_; have GE1175 := n5_; have NB1171_1175 := n6_; have NB1175_1171 := n7_; have NB1172_1175 := n8_; have NB1175_1172 := n9_; clear n0_ n1_ n2_ n3_ n4_ n5_ n6_ n7_ n8_ n9_; clear hb hbox hg; have hnb19 := NB1175_1171.out; have hnc19 := NB1171_1175.out; have hnb20 := NB1175_1172.out; have hnc20 := NB1172_1175.out; have hcz21_0 : w18.cell? ⟨gb1175, 0, none⟩ = some (.slice none 0 0) := (blk_cell BK1175.out 0).trans rfl; have hfz21_0 := blk_frozen BK1175.out 0))
    go_loopg [7] kj2 (fun kq v7 w' => ∃ (x7_2 : Int) (x1176000_2 : List (List (S85))) (u1176000 : Value), v7 = .int .i64 x7_2 ∧ Aside0 (spec_TurnPlaces.l0 kq l1 x7_2 l0_0 x1176000_2 = some (r1, r2)) ∧ Aside0 (kq ≤ kj2) ∧ Aside0 (Kd.S (Kd.slice 85 k85) 82 w' w.heap.size (fun _ => True) u1176000 x1176000_2) ∧ Aside0 (w'.heap[gb1171]? = some (.cells #[(.slice A0_0 l0_0.length c0_0)] 35 (0, 0))) ∧ Aside0 (w'.heap[gb1172]? = some (.cells #[(.slice none 0 0)] 35 (0, 0))) ∧ Aside0 (w'.heap[gb1175]? = some (.cells #[u1176000] 35 (0, 0))) ∧ Aside0 (Below w.heap.size w w'))
    case atStart => exact ⟨(0), (([] : List (List (S85)))), (.slice none 0 0), z58_1, H', ⟨Nat.le_refl _⟩, ⟨z58_5⟩, ⟨z58_9⟩, ⟨z58_10⟩, ⟨by (with_reducible repeat (first | refine blk_drewN ?_ _ | refine blk_drew ?_ | refine blk_alloc ?_ _)); refine blk_put (cs := #[.slice none 0 0]) ?_ 0 _ rfl; (with_reducible repeat (first | refine blk_drewN ?_ _ | refine blk_drew ?_ | refine blk_alloc ?_ _)); exact BK1175.out⟩, ⟨z58_8⟩⟩
    case round =>
     clear H'
     obtain ⟨x7_2, x1176000_2, u1176000, rfl, HA, HK2, HO_1176000, BK1171, BK1172, BK1175, HB⟩ := hrel
     cases gk with
     | zero => exact absurd HA.out (by simp [spec_TurnPlaces.l0])
     | succ k2 =>
      have H := HA.out
      clear HA
      simp only [spec_TurnPlaces.l0] at H
      by_cases c22 : x7_2 < (l0_0.length : Int)
      ·rw [if_pos c22] at H
       have c22b0 : decide (x7_2 < (l0_0.length : Int)) = true := decide_eq_true c22
       clear c22
       obtain ⟨y1176, hy1176⟩ : ∃ y_ : List (S85), y_ = (([] : List (S85))) := ⟨_, rfl⟩
       replace H : (if 0 ≤ x7_2 then (if y1176.length + (rd_L7 l0_0 x7_2).length < 5864062014805 then (spec_TurnPlaces.l1 k2 l1 x7_2 (y1176 ++ (rd_L7 l0_0 x7_2)) 0 l0_0 x1176000_2) else (none)) else (none)) = some (r1, r2) := by first | (rw [hy1176]; with_reducible exact H) | (have H2_ := (Option.bind_some _ _).symm.trans H; rw [hy1176]; with_reducible exact H2_) | (have H2_ := (Option.bind_some _ _).symm.trans H; with_reducible exact H2_) | with_reducible exact H | (rw [hy1176]; exact H) | exact H
       have Ny1176 := am_ hy1176
       clear hy1176
       by_cases c23 : 0 ≤ x7_2
       ·rw [if_pos c23] at H
        have c23b0 : decide (0 ≤ x7_2) = true := decide_eq_true c23
        clear c23
        by_cases c24 : y1176.length + (rd_L7 l0_0 x7_2).length < 5864062014805
        ·rw [if_pos c24] at H
         have LMc24 := am_ c24
         clear c24
         obtain ⟨y1180, hy1180⟩ : ∃ y_ : List (S85), y_ = (y1176 ++ (rd_L7 l0_0 x7_2)) := ⟨_, rfl⟩
         replace H : (spec_TurnPlaces.l1 k2 l1 x7_2 y1180 0 l0_0 x1176000_2) = some (r1, r2) := by first | (rw [hy1180]; with_reducible exact H) | (have H2_ := (Option.bind_some _ _).symm.trans H; rw [hy1180]; with_reducible exact H2_) | (have H2_ := (Option.bind_some _ _).symm.trans H; with_reducible exact H2_) | with_reducible exact H | (rw [hy1180]; exact H) | exact H
         have Ny1180 := am_ hy1180
         clear hy1180
         have H' := am_ H
         clear H
         have hnb25 := NB1171_1172.out
         have hnc25 := NB1172_1171.out
         have hnb26 := NB1171_1175.out
         have hnc26 := NB1175_1171.out
         have hcz27_0 : wr.cell? ⟨gb1171, 0, none⟩ = some (.slice A0_0 l0_0.length c0_0) := (blk_cell BK1171.out 0).trans rfl
         have hfz27_0 := blk_frozen BK1171.out 0
         go_wp2_with (first | ((with_reducible refine gate_dst (N := 27) rfl ?_); refine Kd.R_lit k85 _ 85 ?hg (N := 27) ?hd (xs := ([] : List (S85))) (inner := []) (ok := fun _ => True) (okp := fun _ => True) ?hr ?hp (fun _ hk => hk) trivial (Below.refl _ _) (Nat.le_refl _) (by simp) ?_; (case hd => rfl); (case hg => rfl); (case hr => first | (go_simp; done) | (go_simp; rfl)); (case hp => exact (Reps.none _ _)); intro v1177 w28 ho29 hb hg_ hnew_; clear hg_ hnew_; (first | rw [← Ny1176.out] at ho29 | (simp only [Int.reduceToNat] at ho29; rw [← Ny1176.out] at ho29)); have n0_ := am_ (Kd.S_elder' (su HO_1176000.out) (Kd.R_base ho29) hb); have n1_ := am_ (Kd.R_lower ho29 (below_size z58_8)); have n2_ := am_ (blk_below (bu BK1171.out) hb); have n3_ := am_ (blk_below (bu BK1172.out) hb); have n4_ := am_ (blk_below (bu BK1175.out) hb); have n5_ := am_ (below_step z58_8 hb); clear HO_1176000 BK1171 BK1172 BK1175 HB; have HO_1176000 := n0_; have HO1178 := n1_; have BK1171 := n2_; have BK1172 := n3_; have BK1175 := n4_; have HB := n5_; clear n0_ n1_ n2_ n3_ n4_ n5_; clear hb ho29; have hcz30_0 : w28.cell? ⟨gb1171, 0, none⟩ = some (.slice A0_0 l0_0.length c0_0) := (blk_cell BK1171.out 0).trans rfl; have hfz30_0 := blk_frozen BK1171.out 0; have p1179 : 0 ≤ (x7_2 : Int) := of_decide_eq_true z58_2; have q1179 : x7_2 < (l0_0.length : Int) := of_decide_eq_true z58_2; obtain ⟨ad1179, A1179_0, c1179_0, e1179, hx1179_0, hl1179_0, hi1179_0⟩ := at_L7 HR0_0.out x7_2 p1179 q1179; cases e1179; replace hx1179_0 := (HB.out.cell (World.block_lt_of_cell? w _ hx1179_0)).trans hx1179_0; have HR1179_0 := am_ hi1179_0; have HC1179_0 := am_ hl1179_0; clear hi1179_0 hl1179_0; replace p1179 := eq_true p1179; replace q1179 := eq_true q1179) | ((with_reducible refine gate_builtin (b := .append) (xs := #[.tmp 27, .tmp 32]) rfl ?_); at_builtin; refine Kd.R_append_rows k85 (w0 := w) w.heap.size rfl (.tmp 27) (.tmp 32) 82 85 (.agg #[(.int .i64 0), (.int .i64 0), (.int .i64 0)]) 24 rfl Try.underlying82 info85 rfl (by decide) (by omega) v1177 y1176 (rd_L7 l0_0 x7_2) _ _ _ (fun _ => True) (fun _ => False) rfl rfl ?aO ?aR (fun _ _ h => h) (fun _ h => h.elim) ?aF ?aB ?aS ?aL ?_; (case aR => repeat (first | exact (Kd.C_below HR1179_0.out HB.out) | (with_reducible refine Kd.C_alloc ?_ _) | (with_reducible refine Kd.C_drewN ?_ _) | (with_reducible refine Kd.C_drew ?_))); (case aB => exact z58_8); (case aF => exact (fun _ _ => trivial)); (case aO => exact (ru HO1178.out)); (case aS => exact (below_size z58_8)); (case aL => have := LMc24.out; omega); intro v1181 w31 ho hb hg hat; rw [← Ny1180.out] at ho; have n0_ := am_ (Kd.S_after (ok := (fun _ => True)) (su HO_1176000.out) hg hat); have n1_ := am_ (blk_grown (bu BK1171.out) hg (Kd.R_ne HO1178.out BK1171.out (by decide))); have n2_ := am_ (blk_grown (bu BK1172.out) hg (Kd.R_ne HO1178.out BK1172.out (by decide))); have n3_ := am_ (blk_grown (bu BK1175.out) hg (Kd.R_ne HO1178.out BK1175.out (by decide))); have n4_ := am_ (hb); have n5_ := am_ (ho); clear HO_1176000 BK1171 BK1172 BK1175 HB HO1178; have HO_1176000 := n0_; have BK1171 := n1_; have BK1172 := n2_; have BK1175 := n3_; have HB := n4_; have HO1182 := n5_; clear n0_ n1_ n2_ n3_ n4_ n5_; clear ho hb hg hat))
         go_loopg [9] k2 (fun kq v9 w' => ∃ (x8_3 : List (S85)) (x9_3 : Int), v9 = .int .i64 x9_3 ∧ Aside0 (spec_TurnPlaces.l1 kq l1 x7_2 x8_3 x9_3 l0_0 x1176000_2 = some (r1, r2)) ∧ Aside0 (kq ≤ k2) ∧ Aside0 (Kd.R k85 85 w' w.heap.size (fun _ => True) v1181 x8_3) ∧ Aside0 (Kd.S (Kd.slice 85 k85) 82 w' w.heap.size (fun k_ => some k_ ≠ (v1181 : Value).ownBlock) u1176000 x1176000_2) ∧ Aside0 (w'.heap[gb1171]? = some (.cells #[(.slice (some ad1179) l0_0.length c0_0)] 35 (0, 0))) ∧ Aside0 (w'.heap[gb1172]? = some (.cells #[(.slice none 0 0)] 35 (0, 0))) ∧ Aside0 (w'.heap[gb1175]? = some (.cells #[u1176000] 35 (0, 0))) ∧ Aside0 (Below w.heap.size w w'))
         case atStart => exact ⟨(y1180), (0), z58_1, H', ⟨Nat.le_refl _⟩, ⟨ru HO1182.out⟩, ⟨su (Kd.S_mono HO_1176000.out (fun _ hk => hk.2))⟩, ⟨bu BK1171.out⟩, ⟨bu BK1172.out⟩, ⟨bu BK1175.out⟩, ⟨z58_8⟩⟩
         case round =>
          clear H'
          obtain ⟨x8_3, x9_3, rfl, HA, HK3, HO_8, HO_1176000, BK1171, BK1172, BK1175, HB⟩ := hrel
          cases gk with
          | zero => exact absurd HA.out (by simp [spec_TurnPlaces.l1])
          | succ k3 =>
           have H := HA.out
           clear HA
           simp only [spec_TurnPlaces.l1] at H
           by_cases c32 : x9_3 < (x8_3.length : Int)
           ·rw [if_pos c32] at H
            have c32b0 : decide (x9_3 < (x8_3.length : Int)) = true := decide_eq_true c32
            clear c32
            by_cases c33 : 0 ≤ x9_3
            ·rw [if_pos c33] at H
             have c33b0 : decide (0 ≤ x9_3) = true := decide_eq_true c33
             clear c33
             replace H := Option.bind_eq_some_iff.mp H
             obtain ⟨t1187, A340, H⟩ := H
             replace H : (if t1187 = true then (if 0 ≤ ((rd_T85 x8_3 x9_3).f1) then (if ((rd_T85 x8_3 x9_3).f1) < (l1.length : Int) then (spec_TurnPlaces.l1 k3 l1 x7_2 (x8_3.set (x9_3 : Int).toNat (⟨(rd_T85 x8_3 x9_3).f0, rd l1 ((rd_T85 x8_3 x9_3).f1), (rd_T85 x8_3 x9_3).f2⟩ : S85)) (wrap64 (x9_3 + 1)) l0_0 x1176000_2) else (none)) else (none)) else ((spec_l1Writes.f ((rd_T85 x8_3 x9_3).f0) ((rd_T85 x8_3 x9_3).f1) ((rd_T85 x8_3 x9_3).f2)).bind fun t1192 => (if t1192 = true then (if 0 ≤ ((rd_T85 x8_3 x9_3).f1) then (if ((rd_T85 x8_3 x9_3).f1) < (l1.length : Int) then (spec_TurnPlaces.l1 k3 l1 x7_2 (x8_3.set (x9_3 : Int).toNat (⟨(rd_T85 x8_3 x9_3).f0, rd l1 ((rd_T85 x8_3 x9_3).f1), (rd_T85 x8_3 x9_3).f2⟩ : S85)) (wrap64 (x9_3 + 1)) l0_0 x1176000_2) else (none)) else (none)) else (spec_TurnPlaces.l1 k3 l1 x7_2 x8_3 (wrap64 (x9_3 + 1)) l0_0 x1176000_2)))) = some (r1, r2) := H
             have A34 := am_ A340
             clear A340
             by_cases c35 : t1187 = true
             ·subst c35
              have H1 : (if 0 ≤ ((rd_T85 x8_3 x9_3).f1) then (if ((rd_T85 x8_3 x9_3).f1) < (l1.length : Int) then (spec_TurnPlaces.l1 k3 l1 x7_2 (x8_3.set (x9_3 : Int).toNat (⟨(rd_T85 x8_3 x9_3).f0, rd l1 ((rd_T85 x8_3 x9_3).f1), (rd_T85 x8_3 x9_3).f2⟩ : S85)) (wrap64 (x9_3 + 1)) l0_0 x1176000_2) else (none)) else (none)) = some (r1, r2) := by rw [if_pos rfl] at H; exact H
              clear H
              have H := H1
              clear H1
              by_cases c36 : 0 ≤ ((rd_T85 x8_3 x9_3).f1)
              ·rw [if_pos c36] at H
               have c36b0 : decide (0 ≤ ((rd_T85 x8_3 x9_3).f1)) = true := decide_eq_true c36
               clear c36
               by_cases c37 : ((rd_T85 x8_3 x9_3).f1) < (l1.length : Int)
               ·rw [if_pos c37] at H
                have c37b0 : decide (((rd_T85 x8_3 x9_3).f1) < (l1.length : Int)) = true := decide_eq_true c37
                clear c37
                obtain ⟨y1190, hy1190⟩ : ∃ y_ : List (S85), y_ = (x8_3.set (x9_3 : Int).toNat (⟨(rd_T85 x8_3 x9_3).f0, rd l1 ((rd_T85 x8_3 x9_3).f1), (rd_T85 x8_3 x9_3).f2⟩ : S85)) := ⟨_, rfl⟩
                replace H : (spec_TurnPlaces.l1 k3 l1 x7_2 y1190 (wrap64 (x9_3 + 1)) l0_0 x1176000_2) = some (r1, r2) := by first | (rw [hy1190]; with_reducible exact H) | (have H2_ := (Option.bind_some _ _).symm.trans H; rw [hy1190]; with_reducible exact H2_) | (have H2_ := (Option.bind_some _ _).symm.trans H; with_reducible exact H2_) | with_reducible exact H | (rw [hy1190]; exact H) | exact H
                have Ny1190 := am_ hy1190
                clear hy1190
                have H' := am_ H
                clear H
                obtain ⟨Ao39, co39, eo39⟩ := Kd.R_slice HO_8.out
                subst eo39
                have p1186 : 0 ≤ (x9_3 : Int) := of_decide_eq_true z58_2
                have q1186 : x9_3 < (x8_3.length : Int) := of_decide_eq_true z58_2
                obtain ⟨ad1186, e1186, hx1186_0, hx1186_1, hx1186_2⟩ := at_T85 (Kd.R_reads' HO_8.out).2.2 x9_3 p1186 q1186
                cases e1186
                replace p1186 := eq_true p1186
                replace q1186 := eq_true q1186
                go_wp2_with (first | ((with_reducible refine gate_callee (f := 87) rfl ?_); refine goesL_ (some 44) rfl rfl Try.func87 (by kernel_rfl) rfl #[.agg #[.int .i64 ((rd_T85 x8_3 x9_3).f0), .int .i64 ((rd_T85 x8_3 x9_3).f1), .int .i64 ((rd_T85 x8_3 x9_3).f2)]] rfl (by (try simp only [List.map_toArray, List.map_cons, List.map_nil]); first | done | rfl | (simp only [List.length_drop, List.length_take]; rfl)) ?_; (with_reducible refine (spec_l1Reads.calls ((rd_T85 x8_3 x9_3).f0) ((rd_T85 x8_3 x9_3).f1) ((rd_T85 x8_3 x9_3).f2) true _ A34.out).mono ?_); rintro e w40 ⟨rfl, hb⟩; refine ⟨_, rfl, ?_⟩; have n0_ := am_ (Kd.R_below (ru HO_8.out) hb); have n1_ := am_ (Kd.S_below (su HO_1176000.out) hb); have n2_ := am_ (blk_below (bu BK1171.out) hb); have n3_ := am_ (blk_below (bu BK1172.out) hb); have n4_ := am_ (blk_below (bu BK1175.out) hb); have n5_ := am_ (below_step z58_8 hb); clear HO_8 HO_1176000 BK1171 BK1172 BK1175 HB; have HO_8 := n0_; have HO_1176000 := n1_; have BK1171 := n2_; have BK1172 := n3_; have BK1175 := n4_; have HB := n5_; clear n0_ n1_ n2_ n3_ n4_ n5_; (try clear hb); (try clear hb2); (try clear hk); (try clear hi); have p1188 : 0 ≤ (x9_3 : Int) := of_decide_eq_true z58_2; have q1188 : x9_3 < (x8_3.length : Int) := of_decide_eq_true z58_2; obtain ⟨ad1188, e1188, hx1188_0, hx1188_1, hx1188_2⟩ := at_T85 (Kd.R_reads' HO_8.out).2.2 x9_3 p1188 q1188; obtain rfl : ad1186 = ad1188 := (by injection e1188); replace p1188 := eq_true p1188; replace q1188 := eq_true q1188; have p1189 : 0 ≤ (((rd_T85 x8_3 x9_3).f1) : Int) := of_decide_eq_true z58_2; have q1189 : ((rd_T85 x8_3 x9_3).f1) < (l1.length : Int) := of_decide_eq_true z58_2; obtain ⟨ad1189, e1189, hx1189_0⟩ := Kd.at_int HR1.out ((rd_T85 x8_3 x9_3).f1) p1189 q1189; cases e1189; replace hx1189_0 := (HB.out.cell (World.block_lt_of_cell? w _ hx1189_0)).trans hx1189_0; replace p1189 := eq_true p1189; replace q1189 := eq_true q1189; have p38 : 0 ≤ (x9_3 : Int) := of_decide_eq_true z58_2; have q38 : (x9_3 : Int) < ((x8_3.length : Int) : Int) := of_decide_eq_true z58_2; obtain ⟨go38, co38, eo38, gb38, gl38, cl38, HG38⟩ := Kd.R_form HO_8.out (by omega); (first | cases eo38 | (injection eo38 with ea_ en_ ec_; (first | subst ea_ | (injection ea_ with ea_; subst ea_)); subst ec_; clear en_)); have GB38 := am_ gb38; have GG38 := am_ HG38; clear gb38 gl38 HG38; (first | simp only [add_plain] at hx1186_0 | skip); (first | simp only [add_plain] at hx1186_1 | skip); (first | simp only [add_plain] at hx1186_2 | skip); (first | simp only [add_plain] at hx1188_0 | skip); (first | simp only [add_plain] at hx1188_1 | skip); (first | simp only [add_plain] at hx1188_2 | skip); obtain ⟨ce38, hcl38, hM38, hcc38, hfr38⟩ := Kd.R_elem HO_8.out z85 (x9_3 : Int) p38 q38; obtain rfl := k85_openM hM38; have hx38_0 : w40.cell? ⟨go38, (x9_3 : Int).toNat * 3, none⟩ = some (.int .i64 ((rd_T85 x8_3 x9_3).f0)) := hcc38 0 _ rfl; have hx38_1 : w40.cell? ⟨go38, (x9_3 : Int).toNat * 3 + 1, none⟩ = some (.int .i64 ((rd_T85 x8_3 x9_3).f1)) := hcc38 1 _ rfl; have hx38_2 : w40.cell? ⟨go38, (x9_3 : Int).toNat * 3 + 2, none⟩ = some (.int .i64 ((rd_T85 x8_3 x9_3).f2)) := hcc38 2 _ rfl; have hf38_0 : w40.frozen? ⟨go38, (x9_3 : Int).toNat * 3, none⟩ = false := hfr38 0; have hf38_1 : w40.frozen? ⟨go38, (x9_3 : Int).toNat * 3 + 1, none⟩ = false := hfr38 1; have hf38_2 : w40.frozen? ⟨go38, (x9_3 : Int).toNat * 3 + 2, none⟩ = false := hfr38 2; clear hcl38 hcc38 hfr38 hM38; replace p38 := eq_true p38; replace q38 := eq_true q38; have HX41 := am_ (show Kd.R k85 85 w40 w.heap.size (fun _ => True) (.slice (some ⟨go38, 0, none⟩) x8_3.length co39) x8_3 from (ru HO_8.out)); obtain ⟨ce41, hcl41, hM41, hcc41, hfr41⟩ := Kd.R_elem HX41.out z85 (x9_3 : Int) (of_decide_eq_true z58_2) (by have h_ : (x9_3 : Int) < ((x8_3.length : Int) : Int) := of_decide_eq_true z58_2; first | exact h_ | (have e_ := (Kd.R_reads' HO_8.out).1; omega) | simpa using h_); obtain rfl := k85_openM hM41; have HP41 := Kd.R_seg HX41.out (x9_3 : Int) (of_decide_eq_true z58_2) (by have h_ : (x9_3 : Int) < ((x8_3.length : Int) : Int) := of_decide_eq_true z58_2; first | exact h_ | (have e_ := (Kd.R_reads' HO_8.out).1; omega) | simpa using h_) (seg := [.int .i64 (rd l1 ((rd_T85 x8_3 x9_3).f1))]) (j := 1) hcl41 hcc41 (show 2 ≤ 3 from by decide) (x' := (⟨(rd_T85 x8_3 x9_3).f0, rd l1 ((rd_T85 x8_3 x9_3).f1), (rd_T85 x8_3 x9_3).f2⟩ : S85)) (k85_mkM _ _ _ (⟨(rd_T85 x8_3 x9_3).f0, rd l1 ((rd_T85 x8_3 x9_3).f1), (rd_T85 x8_3 x9_3).f2⟩ : S85) ) (fun _ hk => hk); have hx41_1 := hcc41 1 _ rfl; (try simp only [show (k85).sz = 3 from rfl, Nat.mul_one, Nat.add_zero] at hx41_1); have hf41_1 := hfr41 1; (try simp only [show (k85).sz = 3 from rfl, Nat.mul_one, Nat.add_zero] at hf41_1); clear hcl41 hcc41 hfr41 hM41) | ((with_reducible refine gate_store (t := 3) (p := 63) rfl ?_); refine store_event (t := 3) (p := 63) (v := ?vo_w42) (w1 := (w40.setCell ⟨go38, (x9_3 : Int).toNat * 3 + 1, none⟩ (.int .i64 (rd l1 ((rd_T85 x8_3 x9_3).f1))))) ?hg ?ho ?hn ?hr ?_; (case ho => rfl); (case hg => rfl); (case hn => rfl); (case hr => first | (go_simp; done) | (go_simp; rfl)); intro w42 hw; have hg : w40.grownBy w42 (some go38) := (by rw [hw]; exact HP41.2); have hp_ : Kd.R k85 85 w42 w.heap.size (fun _ => True) (.slice (some ⟨go38, 0, none⟩) x8_3.length co39) y1190 := (by rw [hw, Ny1190.out]; exact HP41.1); clear HP41; have n0_ := am_ (hp_); have n1_ := am_ (Kd.S_after (v := (.slice (some ⟨go38, 0, none⟩) x8_3.length co39)) (v1 := (.slice (some ⟨go38, 0, none⟩) x8_3.length co39)) (ok := (fun _ => True)) (su (Kd.S_mono HO_1176000.out (fun _ hk => ⟨trivial, hk⟩))) hg (.inl rfl)); have n2_ := am_ (blk_grown (bu BK1171.out) hg (Kd.R_ne HO_8.out BK1171.out (by decide))); have n3_ := am_ (blk_grown (bu BK1172.out) hg (Kd.R_ne HO_8.out BK1172.out (by decide))); have n4_ := am_ (blk_grown (bu BK1175.out) hg (Kd.R_ne HO_8.out BK1175.out (by decide))); have n5_ := am_ (by rw [hw]; exact below_set (HB.out) GB38.out : Below w.heap.size w w42); clear HO_8 HO_1176000 BK1171 BK1172 BK1175 HB; have HO_8 := n0_; have HO_1176000 := n1_; have BK1171 := n2_; have BK1172 := n3_; have BK1175 := n4_; have HB := n5_; clear n0_ n1_ n2_ n3_ n4_ n5_; clear hg hw hp_))
                go_roundg k3
                case measure => have := HJ2.out; have := HK2.out; have := HK3.out; omega
                case rel => exact ⟨(y1190), (wrap64 (x9_3 + 1)), z58_1, H', ⟨by have := HJ2.out; have := HK2.out; have := HK3.out; omega⟩, ⟨ru HO_8.out⟩, ⟨su (Kd.S_mono HO_1176000.out (fun _ hk => hk.2))⟩, ⟨bu BK1171.out⟩, ⟨bu BK1172.out⟩, ⟨bu BK1175.out⟩, ⟨z58_8⟩⟩
               ·rw [if_neg c37] at H
                exact absurd H (by simp)
              ·rw [if_neg c36] at H
               exact absurd H (by simp)
             ·replace c35 := Bool.eq_false_iff.mpr c35
              subst c35
              have H1 : ((spec_l1Writes.f ((rd_T85 x8_3 x9_3).f0) ((rd_T85 x8_3 x9_3).f1) ((rd_T85 x8_3 x9_3).f2)).bind fun t1192 => (if t1192 = true then (if 0 ≤ ((rd_T85 x8_3 x9_3).f1) then (if ((rd_T85 x8_3 x9_3).f1) < (l1.length : Int) then (spec_TurnPlaces.l1 k3 l1 x7_2 (x8_3.set (x9_3 : Int).toNat (⟨(rd_T85 x8_3 x9_3).f0, rd l1 ((rd_T85 x8_3 x9_3).f1), (rd_T85 x8_3 x9_3).f2⟩ : S85)) (wrap64 (x9_3 + 1)) l0_0 x1176000_2) else (none)) else (none)) else (spec_TurnPlaces.l1 k3 l1 x7_2 x8_3 (wrap64 (x9_3 + 1)) l0_0 x1176000_2))) = some (r1, r2) := by rw [if_neg (show ¬ (false = true) by decide)] at H; exact H
              clear H
              have H := H1
              clear H1
              replace H := Option.bind_eq_some_iff.mp H
              obtain ⟨t1192, A430, H⟩ := H
              replace H : (if t1192 = true then (if 0 ≤ ((rd_T85 x8_3 x9_3).f1) then (if ((rd_T85 x8_3 x9_3).f1) < (l1.length : Int) then (spec_TurnPlaces.l1 k3 l1 x7_2 (x8_3.set (x9_3 : Int).toNat (⟨(rd_T85 x8_3 x9_3).f0, rd l1 ((rd_T85 x8_3 x9_3).f1), (rd_T85 x8_3 x9_3).f2⟩ : S85)) (wrap64 (x9_3 + 1)) l0_0 x1176000_2) else (none)) else (none)) else (spec_TurnPlaces.l1 k3 l1 x7_2 x8_3 (wrap64 (x9_3 + 1)) l0_0 x1176000_2)) = some (r1, r2) := H
              have A43 := am_ A430
              clear A430
              by_cases c44 : t1192 = true
              ·subst c44
               have H1 : (if 0 ≤ ((rd_T85 x8_3 x9_3).f1) then (if ((rd_T85 x8_3 x9_3).f1) < (l1.length : Int) then (spec_TurnPlaces.l1 k3 l1 x7_2 (x8_3.set (x9_3 : Int).toNat (⟨(rd_T85 x8_3 x9_3).f0, rd l1 ((rd_T85 x8_3 x9_3).f1), (rd_T85 x8_3 x9_3).f2⟩ : S85)) (wrap64 (x9_3 + 1)) l0_0 x1176000_2) else (none)) else (none)) = some (r1, r2) := by rw [if_pos rfl] at H; exact H
               clear H
               have H := H1
               clear H1
               by_cases c45 : 0 ≤ ((rd_T85 x8_3 x9_3).f1)
               ·rw [if_pos c45] at H
                have c45b0 : decide (0 ≤ ((rd_T85 x8_3 x9_3).f1)) = true := decide_eq_true c45
                clear c45
                by_cases c46 : ((rd_T85 x8_3 x9_3).f1) < (l1.length : Int)
                ·rw [if_pos c46] at H
                 have c46b0 : decide (((rd_T85 x8_3 x9_3).f1) < (l1.length : Int)) = true := decide_eq_true c46
                 clear c46
                 obtain ⟨y1195, hy1195⟩ : ∃ y_ : List (S85), y_ = (x8_3.set (x9_3 : Int).toNat (⟨(rd_T85 x8_3 x9_3).f0, rd l1 ((rd_T85 x8_3 x9_3).f1), (rd_T85 x8_3 x9_3).f2⟩ : S85)) := ⟨_, rfl⟩
                 replace H : (spec_TurnPlaces.l1 k3 l1 x7_2 y1195 (wrap64 (x9_3 + 1)) l0_0 x1176000_2) = some (r1, r2) := by first | (rw [hy1195]; with_reducible exact H) | (have H2_ := (Option.bind_some _ _).symm.trans H; rw [hy1195]; with_reducible exact H2_) | (have H2_ := (Option.bind_some _ _).symm.trans H; with_reducible exact H2_) | with_reducible exact H | (rw [hy1195]; exact H) | exact H
                 have Ny1195 := am_ hy1195
                 clear hy1195
                 have H' := am_ H
                 clear H
                 obtain ⟨Ao48, co48, eo48⟩ := Kd.R_slice HO_8.out
                 subst eo48
                 have p1186 : 0 ≤ (x9_3 : Int) := of_decide_eq_true z58_2
                 have q1186 : x9_3 < (x8_3.length : Int) := of_decide_eq_true z58_2
                 obtain ⟨ad1186, e1186, hx1186_0, hx1186_1, hx1186_2⟩ := at_T85 (Kd.R_reads' HO_8.out).2.2 x9_3 p1186 q1186
                 cases e1186
                 replace p1186 := eq_true p1186
                 replace q1186 := eq_true q1186
                 go_wp2_with (first | ((with_reducible refine gate_callee (f := 87) rfl ?_); refine goesL_ (some 44) rfl rfl Try.func87 (by kernel_rfl) rfl #[.agg #[.int .i64 ((rd_T85 x8_3 x9_3).f0), .int .i64 ((rd_T85 x8_3 x9_3).f1), .int .i64 ((rd_T85 x8_3 x9_3).f2)]] rfl (by (try simp only [List.map_toArray, List.map_cons, List.map_nil]); first | done | rfl | (simp only [List.length_drop, List.length_take]; rfl)) ?_; (with_reducible refine (spec_l1Reads.calls ((rd_T85 x8_3 x9_3).f0) ((rd_T85 x8_3 x9_3).f1) ((rd_T85 x8_3 x9_3).f2) false _ A34.out).mono ?_); rintro e w49 ⟨rfl, hb⟩; refine ⟨_, rfl, ?_⟩; have n0_ := am_ (Kd.R_below (ru HO_8.out) hb); have n1_ := am_ (Kd.S_below (su HO_1176000.out) hb); have n2_ := am_ (blk_below (bu BK1171.out) hb); have n3_ := am_ (blk_below (bu BK1172.out) hb); have n4_ := am_ (blk_below (bu BK1175.out) hb); have n5_ := am_ (below_step z58_8 hb); clear HO_8 HO_1176000 BK1171 BK1172 BK1175 HB; have HO_8 := n0_; have HO_1176000 := n1_; have BK1171 := n2_; have BK1172 := n3_; have BK1175 := n4_; have HB := n5_; clear n0_ n1_ n2_ n3_ n4_ n5_; (try clear hb); (try clear hb2); (try clear hk); (try clear hi); have p1191 : 0 ≤ (x9_3 : Int) := of_decide_eq_true z58_2; have q1191 : x9_3 < (x8_3.length : Int) := of_decide_eq_true z58_2; obtain ⟨ad1191, e1191, hx1191_0, hx1191_1, hx1191_2⟩ := at_T85 (Kd.R_reads' HO_8.out).2.2 x9_3 p1191 q1191; obtain rfl : ad1186 = ad1191 := (by injection e1191); replace p1191 := eq_true p1191; replace q1191 := eq_true q1191) | (go_at_call 88; (with_reducible refine (spec_l1Writes.calls ((rd_T85 x8_3 x9_3).f0) ((rd_T85 x8_3 x9_3).f1) ((rd_T85 x8_3 x9_3).f2) true _ A43.out).mono ?_); rintro e w50 ⟨rfl, hb⟩; have n0_ := am_ (Kd.R_below (ru HO_8.out) hb); have n1_ := am_ (Kd.S_below (su HO_1176000.out) hb); have n2_ := am_ (blk_below (bu BK1171.out) hb); have n3_ := am_ (blk_below (bu BK1172.out) hb); have n4_ := am_ (blk_below (bu BK1175.out) hb); have n5_ := am_ (below_step z58_8 hb); clear HO_8 HO_1176000 BK1171 BK1172 BK1175 HB; have HO_8 := n0_; have HO_1176000 := n1_; have BK1171 := n2_; have BK1172 := n3_; have BK1175 := n4_; have HB := n5_; clear n0_ n1_ n2_ n3_ n4_ n5_; (try clear hb); (try clear hb2); (try clear hk); (try clear hi); have p1193 : 0 ≤ (x9_3 : Int) := of_decide_eq_true z58_2; have q1193 : x9_3 < (x8_3.length : Int) := of_decide_eq_true z58_2; obtain ⟨ad1193, e1193, hx1193_0, hx1193_1, hx1193_2⟩ := at_T85 (Kd.R_reads' HO_8.out).2.2 x9_3 p1193 q1193; obtain rfl : ad1186 = ad1193 := (by injection e1193); replace p1193 := eq_true p1193; replace q1193 := eq_true q1193; have p1194 : 0 ≤ (((rd_T85 x8_3 x9_3).f1) : Int) := of_decide_eq_true z58_2; have q1194 : ((rd_T85 x8_3 x9_3).f1) < (l1.length : Int) := of_decide_eq_true z58_2; obtain ⟨ad1194, e1194, hx1194_0⟩ := Kd.at_int HR1.out ((rd_T85 x8_3 x9_3).f1) p1194 q1194; cases e1194; replace hx1194_0 := (HB.out.cell (World.block_lt_of_cell? w _ hx1194_0)).trans hx1194_0; replace p1194 := eq_true p1194; replace q1194 := eq_true q1194; have p47 : 0 ≤ (x9_3 : Int) := of_decide_eq_true z58_2; have q47 : (x9_3 : Int) < ((x8_3.length : Int) : Int) := of_decide_eq_true z58_2; obtain ⟨go47, co47, eo47, gb47, gl47, cl47, HG47⟩ := Kd.R_form HO_8.out (by omega); (first | cases eo47 | (injection eo47 with ea_ en_ ec_; (first | subst ea_ | (injection ea_ with ea_; subst ea_)); subst ec_; clear en_)); have GB47 := am_ gb47; have GG47 := am_ HG47; clear gb47 gl47 HG47; (first | simp only [add_plain] at hx1186_0 | skip); (first | simp only [add_plain] at hx1186_1 | skip); (first | simp only [add_plain] at hx1186_2 | skip); (first | simp only [add_plain] at hx1191_0 | skip); (first | simp only [add_plain] at hx1191_1 | skip); (first | simp only [add_plain] at hx1191_2 | skip); (first | simp only [add_plain] at hx1193_0 | skip); (first | simp only [add_plain] at hx1193_1 | skip); (first | simp only [add_plain] at hx1193_2 | skip); obtain ⟨ce47, hcl47, hM47, hcc47, hfr47⟩ := Kd.R_elem HO_8.out z85 (x9_3 : Int) p47 q47; obtain rfl := k85_openM hM47; have hx47_0 : w50.cell? ⟨go47, (x9_3 : Int).toNat * 3, none⟩ = some (.int .i64 ((rd_T85 x8_3 x9_3).f0)) := hcc47 0 _ rfl; have hx47_1 : w50.cell? ⟨go47, (x9_3 : Int).toNat * 3 + 1, none⟩ = some (.int .i64 ((rd_T85 x8_3 x9_3).f1)) := hcc47 1 _ rfl; have hx47_2 : w50.cell? ⟨go47, (x9_3 : Int).toNat * 3 + 2, none⟩ = some (.int .i64 ((rd_T85 x8_3 x9_3).f2)) := hcc47 2 _ rfl; have hf47_0 : w50.frozen? ⟨go47, (x9_3 : Int).toNat * 3, none⟩ = false := hfr47 0; have hf47_1 : w50.frozen? ⟨go47, (x9_3 : Int).toNat * 3 + 1, none⟩ = false := hfr47 1; have hf47_2 : w50.frozen? ⟨go47, (x9_3 : Int).toNat * 3 + 2, none⟩ = false := hfr47 2; clear hcl47 hcc47 hfr47 hM47; replace p47 := eq_true p47; replace q47 := eq_true q47; have HX51 := am_ (show Kd.R k85 85 w50 w.heap.size (fun _ => True) (.slice (some ⟨go47, 0, none⟩) x8_3.length co48) x8_3 from (ru HO_8.out)); obtain ⟨ce51, hcl51, hM51, hcc51, hfr51⟩ := Kd.R_elem HX51.out z85 (x9_3 : Int) (of_decide_eq_true z58_2) (by have h_ : (x9_3 : Int) < ((x8_3.length : Int) : Int) := of_decide_eq_true z58_2; first | exact h_ | (have e_ := (Kd.R_reads' HO_8.out).1; omega) | simpa using h_); obtain rfl := k85_openM hM51; have HP51 := Kd.R_seg HX51.out (x9_3 : Int) (of_decide_eq_true z58_2) (by have h_ : (x9_3 : Int) < ((x8_3.length : Int) : Int) := of_decide_eq_true z58_2; first | exact h_ | (have e_ := (Kd.R_reads' HO_8.out).1; omega) | simpa using h_) (seg := [.int .i64 (rd l1 ((rd_T85 x8_3 x9_3).f1))]) (j := 1) hcl51 hcc51 (show 2 ≤ 3 from by decide) (x' := (⟨(rd_T85 x8_3 x9_3).f0, rd l1 ((rd_T85 x8_3 x9_3).f1), (rd_T85 x8_3 x9_3).f2⟩ : S85)) (k85_mkM _ _ _ (⟨(rd_T85 x8_3 x9_3).f0, rd l1 ((rd_T85 x8_3 x9_3).f1), (rd_T85 x8_3 x9_3).f2⟩ : S85) ) (fun _ hk => hk); have hx51_1 := hcc51 1 _ rfl; (try simp only [show (k85).sz = 3 from rfl, Nat.mul_one, Nat.add_zero] at hx51_1); have hf51_1 := hfr51 1; (try simp only [show (k85).sz = 3 from rfl, Nat.mul_one, Nat.add_zero] at hf51_1); clear hcl51 hcc51 hfr51 hM51) | ((with_reducible refine gate_store (t := 3) (p := 63) rfl ?_); refine store_event (t := 3) (p := 63) (v := ?vo_w52) (w1 := (w50.setCell ⟨go47, (x9_3 : Int).toNat * 3 + 1, none⟩ (.int .i64 (rd l1 ((rd_T85 x8_3 x9_3).f1))))) ?hg ?ho ?hn ?hr ?_; (case ho => rfl); (case hg => rfl); (case hn => rfl); (case hr => first | (go_simp; done) | (go_simp; rfl)); intro w52 hw; have hg : w50.grownBy w52 (some go47) := (by rw [hw]; exact HP51.2); have hp_ : Kd.R k85 85 w52 w.heap.size (fun _ => True) (.slice (some ⟨go47, 0, none⟩) x8_3.length co48) y1195 := (by rw [hw, Ny1195.out]; exact HP51.1); clear HP51; have n0_ := am_ (hp_); have n1_ := am_ (Kd.S_after (v := (.slice (some ⟨go47, 0, none⟩) x8_3.length co48)) (v1 := (.slice (some ⟨go47, 0, none⟩) x8_3.length co48)) (ok := (fun _ => True)) (su (Kd.S_mono HO_1176000.out (fun _ hk => ⟨trivial, hk⟩))) hg (.inl rfl)); have n2_ := am_ (blk_grown (bu BK1171.out) hg (Kd.R_ne HO_8.out BK1171.out (by decide))); have n3_ := am_ (blk_grown (bu BK1172.out) hg (Kd.R_ne HO_8.out BK1172.out (by decide))); have n4_ := am_ (blk_grown (bu BK1175.out) hg (Kd.R_ne HO_8.out BK1175.out (by decide))); have n5_ := am_ (by rw [hw]; exact below_set (HB.out) GB47.out : Below w.heap.size w w52); clear HO_8 HO_1176000 BK1171 BK1172 BK1175 HB; have HO_8 := n0_; have HO_1176000 := n1_; have BK1171 := n2_; have BK1172 := n3_; have BK1175 := n4_; have HB := n5_; clear n0_ n1_ n2_ n3_ n4_ n5_; clear hg hw hp_))
                 go_roundg k3
                 case measure => have := HJ2.out; have := HK2.out; have := HK3.out; omega
                 case rel => exact ⟨(y1195), (wrap64 (x9_3 + 1)), z58_1, H', ⟨by have := HJ2.out; have := HK2.out; have := HK3.out; omega⟩, ⟨ru HO_8.out⟩, ⟨su (Kd.S_mono HO_1176000.out (fun _ hk => hk.2))⟩, ⟨bu BK1171.out⟩, ⟨bu BK1172.out⟩, ⟨bu BK1175.out⟩, ⟨z58_8⟩⟩
                ·rw [if_neg c46] at H
                 exact absurd H (by simp)
               ·rw [if_neg c45] at H
                exact absurd H (by simp)
              ·replace c44 := Bool.eq_false_iff.mpr c44
               subst c44
               have H1 : (spec_TurnPlaces.l1 k3 l1 x7_2 x8_3 (wrap64 (x9_3 + 1)) l0_0 x1176000_2) = some (r1, r2) := by rw [if_neg (show ¬ (false = true) by decide)] at H; exact H
               clear H
               have H := H1
               clear H1
               have H' := am_ H
               clear H
               obtain ⟨Ao53, co53, eo53⟩ := Kd.R_slice HO_8.out
               subst eo53
               have p1186 : 0 ≤ (x9_3 : Int) := of_decide_eq_true z58_2
               have q1186 : x9_3 < (x8_3.length : Int) := of_decide_eq_true z58_2
               obtain ⟨ad1186, e1186, hx1186_0, hx1186_1, hx1186_2⟩ := at_T85 (Kd.R_reads' HO_8.out).2.2 x9_3 p1186 q1186
               cases e1186
               replace p1186 := eq_true p1186
               replace q1186 := eq_true q1186
               go_wp2_with (first | ((with_reducible refine gate_callee (f := 87) rfl ?_); refine goesL_ (some 44) rfl rfl Try.func87 (by kernel_rfl) rfl #[.agg #[.int .i64 ((rd_T85 x8_3 x9_3).f0), .int .i64 ((rd_T85 x8_3 x9_3).f1), .int .i64 ((rd_T85 x8_3 x9_3).f2)]] rfl (by (try simp only [List.map_toArray, List.map_cons, List.map_nil]); first | done | rfl | (simp only [List.length_drop, List.length_take]; rfl)) ?_; (with_reducible refine (spec_l1Reads.calls ((rd_T85 x8_3 x9_3).f0) ((rd_T85 x8_3 x9_3).f1) ((rd_T85 x8_3 x9_3).f2) false _ A34.out).mono ?_); rintro e w54 ⟨rfl, hb⟩; refine ⟨_, rfl, ?_⟩; have n0_ := am_ (Kd.R_below (ru HO_8.out) hb); have n1_ := am_ (Kd.S_below (su HO_1176000.out) hb); have n2_ := am_ (blk_below (bu BK1171.out) hb); have n3_ := am_ (blk_below (bu BK1172.out) hb); have n4_ := am_ (blk_below (bu BK1175.out) hb); have n5_ := am_ (below_step z58_8 hb); clear HO_8 HO_1176000 BK1171 BK1172 BK1175 HB; have HO_8 := n0_; have HO_1176000 := n1_; have BK1171 := n2_; have BK1172 := n3_; have BK1175 := n4_; have HB := n5_; clear n0_ n1_ n2_ n3_ n4_ n5_; (try clear hb); (try clear hb2); (try clear hk); (try clear hi); have p1191 : 0 ≤ (x9_3 : Int) := of_decide_eq_true z58_2; have q1191 : x9_3 < (x8_3.length : Int) := of_decide_eq_true z58_2; obtain ⟨ad1191, e1191, hx1191_0, hx1191_1, hx1191_2⟩ := at_T85 (Kd.R_reads' HO_8.out).2.2 x9_3 p1191 q1191; obtain rfl : ad1186 = ad1191 := (by injection e1191); replace p1191 := eq_true p1191; replace q1191 := eq_true q1191) | (go_at_call 88; (with_reducible refine (spec_l1Writes.calls ((rd_T85 x8_3 x9_3).f0) ((rd_T85 x8_3 x9_3).f1) ((rd_T85 x8_3 x9_3).f2) false _ A43.out).mono ?_); rintro e w55 ⟨rfl, hb⟩; have n0_ := am_ (Kd.R_below (ru HO_8.out) hb); have n1_ := am_ (Kd.S_below (su HO_1176000.out) hb); have n2_ := am_ (blk_below (bu BK1171.out) hb); have n3_ := am_ (blk_below (bu BK1172.out) hb); have n4_ := am_ (blk_below (bu BK1175.out) hb); have n5_ := am_ (below_step z58_8 hb); clear HO_8 HO_1176000 BK1171 BK1172 BK1175 HB; have HO_8 := n0_; have HO_1176000 := n1_; have BK1171 := n2_; have BK1172 := n3_; have BK1175 := n4_; have HB := n5_; clear n0_ n1_ n2_ n3_ n4_ n5_; (try clear hb); (try clear hb2); (try clear hk); (try clear hi)))
               go_roundg k3
               case measure => have := HJ2.out; have := HK2.out; have := HK3.out; omega
               case rel => exact ⟨(x8_3), (wrap64 (x9_3 + 1)), z58_1, H', ⟨by have := HJ2.out; have := HK2.out; have := HK3.out; omega⟩, ⟨ru HO_8.out⟩, ⟨su HO_1176000.out⟩, ⟨bu BK1171.out⟩, ⟨bu BK1172.out⟩, ⟨bu BK1175.out⟩, ⟨z58_8⟩⟩
            ·rw [if_neg c33] at H
             exact absurd H (by simp)
           ·rw [if_neg c32] at H
            have c32b0 : decide (x9_3 < (x8_3.length : Int)) = false := decide_eq_false c32
            clear c32
            by_cases c56 : x1176000_2.length < 5864062014805
            ·rw [if_pos c56] at H
             have LMc56 := am_ c56
             clear c56
             obtain ⟨y1183, hy1183⟩ : ∃ y_ : List (List (S85)), y_ = (x1176000_2 ++ [x8_3]) := ⟨_, rfl⟩
             replace H : (spec_TurnPlaces.l0 k3 l1 (wrap64 (x7_2 + 1)) l0_0 y1183) = some (r1, r2) := by first | (rw [hy1183]; with_reducible exact H) | (have H2_ := (Option.bind_some _ _).symm.trans H; rw [hy1183]; with_reducible exact H2_) | (have H2_ := (Option.bind_some _ _).symm.trans H; with_reducible exact H2_) | with_reducible exact H | (rw [hy1183]; exact H) | exact H
             have Ny1183 := am_ hy1183
             clear hy1183
             have H' := am_ H
             clear H
             obtain ⟨Ao57, co57, eo57⟩ := Kd.R_slice HO_8.out
             subst eo57
             have hnb58 := NB1175_1171.out
             have hnc58 := NB1171_1175.out
             have hnb59 := NB1175_1172.out
             have hnc59 := NB1172_1175.out
             have hcz60_0 : wr.cell? ⟨gb1175, 0, none⟩ = some (u1176000) := (blk_cell BK1175.out 0).trans rfl
             have hfz60_0 := blk_frozen BK1175.out 0
             go_wp2_with (first | ((with_reducible refine gate_builtin (b := .append) (xs := #[.tmp 65, .tmp 67]) rfl ?_); at_builtin; refine Kd.S_append (Kd.slice 85 k85) (w0 := w) w.heap.size rfl (.tmp 65) (.tmp 67) 33 82 (.slice none 0 0) 24 rfl Try.underlying33 info82 rfl (by decide) (by omega) u1176000 x1176000_2 x8_3 [.slice Ao57 x8_3.length co57] (fun _ => True) (fun k_ => some k_ = (.slice Ao57 x8_3.length co57 : Value).ownBlock) rfl rfl ?aP (fun k_ hk_ => ((Kd.R_mono (ok' := fun k_ => ((fun _ => True)) k_ ∧ some k_ ≠ (u1176000 : Value).ownBlock) (Kd.R_apart' (HO_8.out) (Kd.S_typed HO_1176000.out) (by decide)) (fun k_ hk => ⟨trivial, hk.2⟩))).1 k_ hk_.symm) ?aF ?aO ?aB ?aS ?aL ?_; (case aP => exact Kd.M_row (Kd.R_mono (Kd.R_tight rfl (Kd.R_mono (ok' := fun k_ => ((fun _ => True)) k_ ∧ some k_ ≠ (u1176000 : Value).ownBlock) (Kd.R_apart' (HO_8.out) (Kd.S_typed HO_1176000.out) (by decide)) (fun k_ hk => ⟨trivial, hk.2⟩))) (fun _ h_ => h_))); (case aB => exact z58_8); (case aF => exact (fun _ _ => trivial)); (case aO => exact (su (Kd.S_mono HO_1176000.out (fun k_ hk => ⟨trivial, fun e_ => hk e_⟩)))); (case aS => exact (below_size z58_8)); (case aL => have := LMc56.out; omega); intro v1184 w61 ho hb hg hat; rw [← Ny1183.out] at ho; have n0_ := am_ (blk_grown (bu BK1171.out) hg (Kd.S_ne HO_1176000.out BK1171.out (by decide))); have n1_ := am_ (blk_grown (bu BK1172.out) hg (Kd.S_ne HO_1176000.out BK1172.out (by decide))); have n2_ := am_ (blk_grown (bu BK1175.out) hg (Kd.S_ne HO_1176000.out BK1175.out (by decide))); have n3_ := am_ (hb); have n4_ := am_ (ho); clear BK1171 BK1172 BK1175 HB HO_1176000 HO_8; have BK1171 := n0_; have BK1172 := n1_; have BK1175 := n2_; have HB := n3_; have HO1185 := n4_; clear n0_ n1_ n2_ n3_ n4_; clear ho hb hg hat; obtain ⟨Ao62, co62, eo62⟩ := Kd.S_slice HO1185.out; subst eo62; have hcz63_0 : w61.cell? ⟨gb1175, 0, none⟩ = some (u1176000) := (blk_cell BK1175.out 0).trans rfl; have hfz63_0 := blk_frozen BK1175.out 0))
             go_roundg k3
             case measure => have := HJ2.out; have := HK2.out; have := HK3.out; omega
             case rel => exact ⟨(wrap64 (x7_2 + 1)), (y1183), (.slice Ao62 y1183.length co62), z58_1, H', ⟨by have := HJ2.out; have := HK2.out; have := HK3.out; omega⟩, ⟨su (Kd.S_mono (Kd.S_far (p := ⟨gb1175, 0, none⟩) (Kd.S_types HO1185.out BK1175.out (by decide)) (fun _ hk => hk.2) (.slice Ao62 y1183.length co62)) (fun _ hk => trivial))⟩, ⟨z58_9⟩, ⟨z58_10⟩, ⟨by (with_reducible repeat (first | refine blk_drewN ?_ _ | refine blk_drew ?_ | refine blk_alloc ?_ _)); refine blk_put (cs := #[u1176000]) ?_ 0 _ rfl; (with_reducible repeat (first | refine blk_drewN ?_ _ | refine blk_drew ?_ | refine blk_alloc ?_ _)); exact BK1175.out⟩, ⟨z58_8⟩⟩
            ·rw [if_neg c56] at H
             exact absurd H (by simp)
        ·rw [if_neg c24] at H
         exact absurd H (by simp)
       ·rw [if_neg c23] at H
        exact absurd H (by simp)
      ·rw [if_neg c22] at H
       have c22b0 : decide (x7_2 < (l0_0.length : Int)) = false := decide_eq_false c22
       clear c22
       simp only [Option.some.injEq, Prod.mk.injEq] at H
       obtain ⟨rfl, rfl⟩ := H
       have hnb64 := NB1171_1172.out
       have hnc64 := NB1172_1171.out
       have hnb65 := NB1171_1175.out
       have hnc65 := NB1175_1171.out
       have hcz66_0 : wr.cell? ⟨gb1171, 0, none⟩ = some (.slice A0_0 l0_0.length c0_0) := (blk_cell BK1171.out 0).trans rfl
       have hfz66_0 := blk_frozen BK1171.out 0
       have hnb67 := NB1175_1172.out
       have hnc67 := NB1172_1175.out
       have hcz68_0 : wr.cell? ⟨gb1175, 0, none⟩ = some (u1176000) := (blk_cell BK1175.out 0).trans rfl
       have hfz68_0 := blk_frozen BK1175.out 0
       obtain ⟨Ao69, co69, eo69⟩ := Kd.S_slice HO_1176000.out
       subst eo69
       have hcz70_0 : wr.cell? ⟨gb1172, 0, none⟩ = some (.slice none 0 0) := (blk_cell BK1172.out 0).trans rfl
       have hfz70_0 := blk_frozen BK1172.out 0
       go_wp2
       refine bodyPost_ret (results_ct rfl _ _ gb1172 35 #[.slice Ao69 x1176000_2.length co69] (0, 0) _ rfl z58_11 Try.underlying35 rfl (by kernel_rfl)) rfl ?_
       exact ⟨_, z58_3, su (Kd.S_mono (Kd.S_far (p := ⟨gb1172, 0, none⟩) (Kd.S_types HO_1176000.out BK1172.out (by decide)) (fun _ hk => hk.2) (.slice Ao69 x1176000_2.length co69)) (fun _ hk => trivial)), z58_8⟩

end Go.Proofs.Ytefkbmhkhpekjaa.PB

namespace Go.Proofs.Ytefkbmhkhpekjaa.PB
open Go.RowKit Go.Proofs.YtefkbmhkhpekjaaW.PrintWords Go.Proofs.YtefkbmhkhpekjaaW.PrintLast Go.Proofs.YtefkbmhkhpekjaaW.PrintMore
attribute [local go_sem] max2_int min2_int max_two min_two max_three min_three max_four min_four   -- for this text's walks alone
open Go.Proofs.YtefkbmhkhpekjaaMine
set_option linter.unusedVariables false
set_option linter.unusedSimpArgs false

/-! ### laws_FnTurnPlaces: function 16 -/
def laws_FnTurnPlaces.T8 : Bool × List (List Nat × List Nat) := (true, [([], []), ([], []), ([1], [1]), ([0, 2, 2], [0, 2]), ([3], [3]), ([4], [4]), ([4], [4]), ([], []), ([7, 5, 3, 0, 1, 2, 3, 4, 5, 7], [5, 7]), ([6, 8, 0, 1, 2, 3, 4, 5, 6, 7, 8], [6])])
def laws_FnTurnPlaces.B8 : List Nat := [0, 0, 2, 7, 15, 31, 31, 0, 191, 511]
theorem laws_FnTurnPlaces.tab8 : rtab .any (opsOf Try.f16 8) = laws_FnTurnPlaces.T8 := by kernel_rfl
theorem laws_FnTurnPlaces.bits8 : waitsOk laws_FnTurnPlaces.T8.2 laws_FnTurnPlaces.B8 = true := by kernel_rfl
def laws_FnTurnPlaces.Facts (k : Nat) (l0 : List Int) (p want : List (List S85)) (row rb : List Int) (told : Bool) (m : Int) : Prop := spec_DrawTurnPlaces.f k l0 = some (p, row) ∧ spec_TurnPlaces.f k p row = some (want, told) ∧ impl_TurnPlaces.f k p row = some (want, told) ∧ laws_lpProg.f k want want = some true ∧ (told = true → laws_lpBack.f k row = some rb ∧ impl_TurnPlaces.f k want rb = some (p, true) ∧ laws_lpProg.f k p p = some true)
set_option maxRecDepth 100000 in
set_option maxHeartbeats 8000000 in
theorem laws_FnTurnPlaces.calls (k : Nat) (A0 : Option Addr) (c0 : Nat) (l0 : List Int) (w : World) (p want : List (List S85)) (row rb : List Int) (told : Bool) (m : Int) (hr0 : Kd.C (Kd.int .u8) w A0 l0.length l0) (hc0 : l0.length ≤ c0) (h : (l0.length : Int) > 1048576 ∨ laws_FnTurnPlaces.Facts k l0 p want row rb told m) :
  Calls Try.prog 16 #[.slice A0 l0.length c0] w fun e w' => e = .returned (.bool true) ∧ Below w.heap.size w w' := by
 have C0 := am_ hr0
 have L0 := am_ hc0
 clear hr0 hc0
 by_cases hl : (l0.length : Int) > 1048576
 ·have hlb : decide (1048576 < (l0.length : Int)) = true := decide_eq_true hl
  clear h
  go_enter Try.func16, Try.ntmps16
  go_wp2_with fail
  refine bodyPost_ret (results_tmp rfl _ _ _) rfl ?_
  exact ⟨rfl, Below.refl _ _⟩
 have hlb : decide (1048576 < (l0.length : Int)) = false := decide_eq_false hl
 replace h := h.resolve_left hl
 unfold laws_FnTurnPlaces.Facts at h
 obtain ⟨h1, h2, h3, h4, h5⟩ := h
 have F1 := am_ h1
 have F2 := am_ h2
 have F3 := am_ h3
 have F4 := am_ h4
 have F5 := am_ h5
 clear h1 h2 h3 h4 h5
 go_enter Try.func16, Try.ntmps16
 go_wp2_with (go_at_call 57; refine park ?_)
 refine ⟨?_⟩
 refine (spec_DrawTurnPlaces.calls k _ _ l0 p row _ C0.out L0.out F1.out).mono ?_
 rintro e w1 ⟨vp, vr, rfl, hN, hR, hb⟩
 obtain ⟨Ap, cp, rfl⟩ := Kd.N_slice hN
 obtain ⟨Ar, cr, rfl⟩ := Kd.R_slice hR
 have CP1 := am_ (Kd.N_reads' hN).2.2
 have LP := am_ (Kd.N_reads' hN).2.1
 have CR1 := am_ (Kd.R_reads' hR).2.2
 have LR := am_ (Kd.R_reads' hR).2.1
 have HB1 := am_ hb
 clear hN hR hb
 have hc3 : (w1.alloc (Obj.cells #[Value.slice Ap p.length cp] 35)).cell? ⟨w1.heap.size, 0, none⟩ = some (.slice Ap p.length cp) := (blk_cell (heap_alloc_new w1 _) 0).trans rfl
 go_wp2_with (go_at_call 58; refine park ?_)
 clear hc3
 refine ⟨?_⟩
 have BP1 := am_ (heap_alloc_new w1 (Obj.cells #[Value.slice Ap p.length cp] 35))
 have CP1a := am_ (Kd.C_alloc CP1.out (Obj.cells #[Value.slice Ap p.length cp] 35))
 have CR1a := am_ (Kd.C_alloc CR1.out (Obj.cells #[Value.slice Ap p.length cp] 35))
 have HB1a := am_ (below_alloc HB1.out (Obj.cells #[Value.slice Ap p.length cp] 35))
 clear CP1 CR1 HB1
 refine (spec_TurnPlaces.calls k _ _ p _ _ row want told _ CP1a.out LP.out CR1a.out LR.out F2.out).mono ?_
 rintro e w2 ⟨vw, rfl, hS, hb⟩
 obtain ⟨Aw, cw, rfl⟩ := Kd.S_slice hS
 have CW2 := am_ (Kd.S_reads' hS).2.2
 have LW := am_ (Kd.S_reads' hS).2.1
 have CP2 := am_ (Kd.C_below CP1a.out hb)
 have CR2 := am_ (Kd.C_below CR1a.out hb)
 have BP2 := am_ (blk_below BP1.out hb)
 have HB2 := am_ (below_then HB1a.out HB1a.out.size hb)
 generalize w1.heap.size = gp at *
 clear hS hb CP1a CR1a HB1a BP1
 have hc3 : (w2.alloc (Obj.cells #[Value.slice Aw want.length cw] 35)).cell? ⟨gp, 0, none⟩ = some (.slice Ap p.length cp) := (blk_cell (blk_alloc BP2.out _) 0).trans rfl
 go_wp2_with (go_at_call 48; refine park ?_)
 clear hc3
 refine ⟨?_⟩
 have BW2 := am_ (heap_alloc_new w2 (Obj.cells #[Value.slice Aw want.length cw] 35))
 have BP2a := am_ (blk_alloc BP2.out (Obj.cells #[Value.slice Aw want.length cw] 35))
 have CP2a := am_ (Kd.C_alloc CP2.out (Obj.cells #[Value.slice Aw want.length cw] 35))
 have CR2a := am_ (Kd.C_alloc CR2.out (Obj.cells #[Value.slice Aw want.length cw] 35))
 have CW2a := am_ (Kd.C_alloc CW2.out (Obj.cells #[Value.slice Aw want.length cw] 35))
 have HB2a := am_ (below_alloc HB2.out (Obj.cells #[Value.slice Aw want.length cw] 35))
 clear CP2 CR2 CW2 BP2 HB2
 refine (impl_TurnPlaces.calls k _ _ p _ _ row want told _ CP2a.out LP.out CR2a.out LR.out F3.out).mono ?_
 rintro e w3 ⟨vq, rfl, hS, hb⟩
 obtain ⟨Aq, cq, rfl⟩ := Kd.S_slice hS
 have CQ3 := am_ (Kd.S_reads' hS).2.2
 have LQ := am_ (Kd.S_reads' hS).2.1
 have CP3 := am_ (Kd.C_below CP2a.out hb)
 have CR3 := am_ (Kd.C_below CR2a.out hb)
 have CW3 := am_ (Kd.C_below CW2a.out hb)
 have BP3 := am_ (blk_below BP2a.out hb)
 have BW3 := am_ (blk_below BW2.out hb)
 have HB3 := am_ (below_then HB2a.out HB2a.out.size hb)
 generalize w2.heap.size = gw at *
 clear hS hb CP2a CR2a CW2a BP2a BW2 HB2a
 have CP4 := am_ (Kd.C_alloc CP3.out (Obj.cells #[Value.slice Aq want.length cq] 35))
 have CR4 := am_ (Kd.C_alloc CR3.out (Obj.cells #[Value.slice Aq want.length cq] 35))
 have CW4 := am_ (Kd.C_alloc CW3.out (Obj.cells #[Value.slice Aq want.length cq] 35))
 have CQ4 := am_ (Kd.C_alloc CQ3.out (Obj.cells #[Value.slice Aq want.length cq] 35))
 have BP4 := am_ (blk_alloc BP3.out (Obj.cells #[Value.slice Aq want.length cq] 35))
 have BW4 := am_ (blk_alloc BW3.out (Obj.cells #[Value.slice Aq want.length cq] 35))
 have BQ4 := am_ (heap_alloc_new w3 (Obj.cells #[Value.slice Aq want.length cq] 35))
 have HB4 := am_ (below_alloc HB3.out (Obj.cells #[Value.slice Aq want.length cq] 35))
 clear CP3 CR3 CW3 CQ3 BP3 BW3 HB3
 have hcw : (w3.alloc (Obj.cells #[Value.slice Aq want.length cq] 35)).cell? ⟨gw, 0, none⟩ = some (.slice Aw want.length cw) := (blk_cell BW4.out 0).trans rfl
 have hcq : (w3.alloc (Obj.cells #[Value.slice Aq want.length cq] 35)).cell? ⟨w3.heap.size, 0, none⟩ = some (.slice Aq want.length cq) := (blk_cell BQ4.out 0).trans rfl
 cases told
 ·go_wp2_with (go_at_call 30; refine park ?_)
  refine ⟨?_⟩
  clear hcw hcq
  refine (laws_lpProg.calls k _ _ want _ _ want true _ CQ4.out LQ.out CW4.out LW.out F4.out).mono ?_
  rintro e w5 ⟨rfl, hb⟩
  have CQ5 := am_ (Kd.C_below CQ4.out hb)
  have CW5 := am_ (Kd.C_below CW4.out hb)
  have hcw : w5.cell? ⟨gw, 0, none⟩ = some (.slice Aw want.length cw) := (blk_cell (blk_below BW4.out hb) 0).trans rfl
  have hcq : w5.cell? ⟨w3.heap.size, 0, none⟩ = some (.slice Aq want.length cq) := (blk_cell (blk_below BQ4.out hb) 0).trans rfl
  have HB5 := am_ (below_then HB4.out HB4.out.size hb)
  clear hb
  go_wp2_with (go_at_call 30; refine park ?_)
  refine ⟨?_⟩
  refine (laws_lpProg.calls k _ _ want _ _ want true _ CQ5.out LQ.out CW5.out LW.out F4.out).mono ?_
  rintro e w6 ⟨rfl, hb⟩
  have HB6 := am_ (below_then HB5.out HB5.out.size hb)
  clear hb
  go_wp2_with fail
  refine bodyPost_ret (results_tmp rfl _ _ _) rfl ?_
  exact ⟨rfl, HB6.out⟩
 ·have F6 := am_ (F5.out rfl)
  clear F5
  go_wp2_with (go_at_call 30; refine park ?_)
  refine ⟨?_⟩
  clear hcw hcq
  refine (laws_lpProg.calls k _ _ want _ _ want true _ CQ4.out LQ.out CW4.out LW.out F4.out).mono ?_
  rintro e w5 ⟨rfl, hb⟩
  have CP5 := am_ (Kd.C_below CP4.out hb)
  have CR5 := am_ (Kd.C_below CR4.out hb)
  have CQ5 := am_ (Kd.C_below CQ4.out hb)
  have BP5 := am_ (blk_below BP4.out hb)
  have BQ5 := am_ (blk_below BQ4.out hb)
  have HB5 := am_ (below_then HB4.out HB4.out.size hb)
  generalize w3.heap.size = gq at *
  clear hb CP4 CR4 CQ4 CW4 BP4 BW4 BQ4 HB4
  go_wp2_with fail
  have CP6 := am_ (Kd.C_drew CP5.out)
  have CR6 := am_ (Kd.C_drew CR5.out)
  have CQ6 := am_ (Kd.C_drew CQ5.out)
  have BP6 := am_ (blk_drew BP5.out)
  have BQ6 := am_ (blk_drew BQ5.out)
  have HB6 := am_ (below_drew HB5.out)
  clear CP5 CR5 CQ5 BP5 BQ5 HB5
  refine start_ (n := 10) (S := fun w' => w'.cell? ⟨gq, 0, none⟩ = some (.slice Aq want.length cq)) (ds := []) #[false, false, false, false, false, false, false, false, false, false] (by kernel_rfl) rfl rfl ((blk_cell BQ6.out 0).trans rfl) (fun hHeld => ?_)
  refine with_tabW laws_FnTurnPlaces.tab8 laws_FnTurnPlaces.bits8 (fun HT_ HW_ => ?_)
  generalize w5.drew = wq at CP6 CR6 CQ6 BP6 BQ6 HB6 hHeld ⊢
  refine pure_ (i := 1) (N := some 54) (v := ?_) (a' := ?_) #[false, true, false, false, false, false, false, false, false, false] rfl rfl (any_of HT_.out (by kernel_rfl)) (fun _ _ _ h => h) (Or.inl ⟨by rfl, ?_⟩) ?_ ?_
  rotate_left
  ·intro w'
   go_simp
   with_reducible rfl
  rotate_left
  ·simp only [Act.put, List.setIfInBounds_toArray, List.set_cons_zero, List.set_cons_succ, i64_w, i32_w]
   rfl
  refine take_ (i := 0) (N := some 53) (v := ?_) (a' := ?_) #[true, true, false, false, false, false, false, false, false, false] rfl rfl (take_ofW HT_.out HW_.out (by kernel_rfl)) (fun _ _ _ h => h) (Or.inl ⟨by rfl, ?_⟩) hHeld ?_ ?_
  rotate_left
  ·intro w' s0
   have s1 := s0
   go_simp
   with_reducible rfl
  rotate_left
  ·simp only [Act.put, List.setIfInBounds_toArray, List.set_cons_zero, List.set_cons_succ, i64_w, i32_w]
   rfl
  refine join_ (σ := Value × Value × Nat) 2 #[true, true, true, true, true, true, true, true, false, false] (fun s_ => [(55, s_.1), (56, .tuple #[.agg #[s_.2.1], .bool true]), (9, .pointer (some ⟨s_.2.2, 0, none⟩)), (52, .tuple #[.agg #[s_.2.1], .bool true]), (57, .agg #[s_.2.1]), (58, .bool true)]) (fun s_ w' => (w'.cell? ⟨gq, 0, none⟩ = some (.slice Aq want.length cq)) ∧ (∃ A c, s_.2.1 = .slice A p.length c ∧ p.length ≤ c ∧ Kd.S (Kd.slice 85 k85) 82 w' wq.heap.size (fun k => k ≠ s_.2.2) (.slice A p.length c) p) ∧ Below wq.heap.size wq w' ∧ wq.heap.size ≤ s_.2.2 ∧ w'.heap[s_.2.2]? = some (Obj.cells #[Value.slice none 0 0] 35)) ?_ ?_
  rotate_left
  ·intro hCont
   refine two_ (i := 2) (j := 7) (Ni := some 55) (Nj := some 9) #[true, true, true, false, false, false, false, false, false, false] #[true, true, false, false, false, false, false, true, false, false] rfl rfl rfl rfl (two_of HT_.out (by kernel_rfl)) (by decide) (by decide) (fun K hK => ?_) (fun K hK => ?_)
   ·refine goes_ Try.func53 (by kernel_rfl) rfl #[.slice Ar row.length cr] (by rfl) rfl rfl (by (try simp only [List.map_toArray, List.map_cons, List.map_nil]); first | done | rfl) ?_
    with_reducible refine (laws_lpBack.calls k _ _ row rb _ CR6.out LR.out F6.out.1).mono ?_
    rintro e w6 ⟨vb, rfl, hR, hb⟩
    refine ⟨_, rfl, ?_⟩
    obtain ⟨Ab, cb, rfl⟩ := Kd.R_slice hR
    have CB := am_ (Kd.R_reads' hR).2.2
    have LB := am_ (Kd.R_reads' hR).2.1
    have Xw6 := am_ hb
    refine hK.out _ _ ((blk_cell (blk_below BQ6.out Xw6.out) 0).trans rfl) (fun hHeld => ?_)
    clear hK K
    refine norm_ (a' := ?_) ?_ ?_
    rotate_left
    ·show Act.put _ (some 55) _ = _
     simp only [Act.put, List.setIfInBounds_toArray, List.set_cons_zero, List.set_cons_succ, i64_w, i32_w]
     rfl
    refine two_ (i := 3) (j := 7) (Ni := some 56) (Nj := some 9) #[true, true, true, true, false, false, false, false, false, false] #[true, true, true, false, false, false, false, true, false, false] rfl rfl rfl rfl (two_of HT_.out (by kernel_rfl)) (by decide) (by decide) (fun K hK => ?_) (fun K hK => ?_)
    ·refine goes_ Try.func48 (by kernel_rfl) rfl #[.agg #[.slice Aq want.length cq], .slice Ab rb.length cb] (by rfl) rfl rfl (by (try simp only [List.map_toArray, List.map_cons, List.map_nil]); first | done | rfl) ?_
     with_reducible refine (impl_TurnPlaces.calls k _ _ want _ _ rb p true _ (Kd.C_below CQ6.out Xw6.out) LQ.out CB.out LB.out F6.out.2.1).mono ?_
     rintro e w7 ⟨vx, rfl, hS, hb⟩
     refine ⟨_, rfl, ?_⟩
     obtain ⟨Ax, cx, rfl⟩ := Kd.S_slice hS
     have SX := am_ hS
     have LX := am_ (Kd.S_reads' hS).2.1
     have Xw7 := am_ (below_then Xw6.out Xw6.out.size hb)
     refine hK.out _ _ ((blk_cell (blk_below BQ6.out Xw7.out) 0).trans rfl) (fun hHeld => ?_)
     clear hK K
     refine norm_ (a' := ?_) ?_ ?_
     rotate_left
     ·show Act.put _ (some 56) _ = _
      simp only [Act.put, List.setIfInBounds_toArray, List.set_cons_zero, List.set_cons_succ, i64_w, i32_w]
      rfl
     refine pure_ (i := 4) (N := some 52) (v := ?_) (a' := ?_) #[true, true, true, true, true, false, false, false, false, false] rfl rfl (any_of HT_.out (by kernel_rfl)) (fun _ _ _ h => h) (Or.inl ⟨by rfl, ?_⟩) ?_ ?_
     rotate_left
     ·intro w'
      go_simp
      with_reducible rfl
     rotate_left
     ·simp only [Act.put, List.setIfInBounds_toArray, List.set_cons_zero, List.set_cons_succ, i64_w, i32_w]
      rfl
     refine pure_ (i := 5) (N := some 57) (v := ?_) (a' := ?_) #[true, true, true, true, true, true, false, false, false, false] rfl rfl (any_of HT_.out (by kernel_rfl)) (fun _ _ _ h => h) (Or.inl ⟨by rfl, ?_⟩) ?_ ?_
     rotate_left
     ·intro w'
      go_simp
      with_reducible rfl
     rotate_left
     ·simp only [Act.put, List.setIfInBounds_toArray, List.set_cons_zero, List.set_cons_succ, i64_w, i32_w]
      rfl
     refine pure_ (i := 6) (N := some 58) (v := ?_) (a' := ?_) #[true, true, true, true, true, true, true, false, false, false] rfl rfl (any_of HT_.out (by kernel_rfl)) (fun _ _ _ h => h) (Or.inl ⟨by rfl, ?_⟩) ?_ ?_
     rotate_left
     ·intro w'
      go_simp
      with_reducible rfl
     rotate_left
     ·simp only [Act.put, List.setIfInBounds_toArray, List.set_cons_zero, List.set_cons_succ, i64_w, i32_w]
      rfl
     refine one_ (i := 7) (N := some 9) #[true, true, true, true, true, true, true, true, false, false] rfl rfl (one_of HT_.out (by kernel_rfl)) (by decide) (fun K hK => ?_)
     refine box_step (by rfl) (N := 9) rfl (cs := #[Value.slice none 0 0]) (t := 35) ?hr ?_
     case hr => first | (go_simp; done) | (go_simp; rfl)
     intro gx hgx w8 hbx hb
     have GX := am_ (show wq.heap.size ≤ gx from by rw [hgx]; exact Xw7.out.size)
     have BX := am_ hbx
     have Xw8 := am_ (below_then Xw7.out Xw7.out.size hb)
     refine hK.out _ _ ((blk_cell (blk_below BQ6.out Xw8.out) 0).trans rfl) (fun hHeld => ?_)
     clear hK K
     refine norm_ (a' := ?_) ?_ ?_
     rotate_left
     ·show Act.put _ (some 9) _ = _
      simp only [Act.put, List.setIfInBounds_toArray, List.set_cons_zero, List.set_cons_succ, i64_w, i32_w]
      rfl
     exact hCont (Value.slice Ab rb.length cb, Value.slice Ax p.length cx, gx) w8 ⟨(blk_cell (blk_below BQ6.out Xw8.out) 0).trans rfl, ⟨Ax, cx, rfl, LX.out, Kd.S_lower (Kd.S_mono (Kd.S_below (Kd.S_bound SX.out) hb) (fun k hk => by have := hk.2.2.1; show k ≠ gx; omega)) Xw6.out.size⟩, Xw8.out, GX.out, hbx⟩
    ·refine box_step (by rfl) (N := 9) rfl (cs := #[Value.slice none 0 0]) (t := 35) ?hr ?_
     case hr => first | (go_simp; done) | (go_simp; rfl)
     intro gx hgx w7 hbx hb
     have GX := am_ (show wq.heap.size ≤ gx from by rw [hgx]; exact Xw6.out.size)
     have BX := am_ hbx
     have Xw7 := am_ (below_then Xw6.out Xw6.out.size hb)
     refine hK.out _ _ ((blk_cell (blk_below BQ6.out Xw7.out) 0).trans rfl) (fun hHeld => ?_)
     clear hK K
     refine norm_ (a' := ?_) ?_ ?_
     rotate_left
     ·show Act.put _ (some 9) _ = _
      simp only [Act.put, List.setIfInBounds_toArray, List.set_cons_zero, List.set_cons_succ, i64_w, i32_w]
      rfl
     refine one_ (i := 3) (N := some 56) #[true, true, true, true, false, false, false, true, false, false] rfl rfl (one_of HT_.out (by kernel_rfl)) (by decide) (fun K hK => ?_)
     refine goes_ Try.func48 (by kernel_rfl) rfl #[.agg #[.slice Aq want.length cq], .slice Ab rb.length cb] (by rfl) rfl rfl (by (try simp only [List.map_toArray, List.map_cons, List.map_nil]); first | done | rfl) ?_
     with_reducible refine (impl_TurnPlaces.calls k _ _ want _ _ rb p true _ (Kd.C_below CQ6.out Xw7.out) LQ.out (Kd.C_below CB.out hb) LB.out F6.out.2.1).mono ?_
     rintro e w8 ⟨vx, rfl, hS, hb2⟩
     refine ⟨_, rfl, ?_⟩
     obtain ⟨Ax, cx, rfl⟩ := Kd.S_slice hS
     have SX := am_ hS
     have LX := am_ (Kd.S_reads' hS).2.1
     have Xw8 := am_ (below_then Xw7.out Xw7.out.size hb2)
     refine hK.out _ _ ((blk_cell (blk_below BQ6.out Xw8.out) 0).trans rfl) (fun hHeld => ?_)
     clear hK K
     refine norm_ (a' := ?_) ?_ ?_
     rotate_left
     ·show Act.put _ (some 56) _ = _
      simp only [Act.put, List.setIfInBounds_toArray, List.set_cons_zero, List.set_cons_succ, i64_w, i32_w]
      rfl
     refine pure_ (i := 4) (N := some 52) (v := ?_) (a' := ?_) #[true, true, true, true, true, false, false, true, false, false] rfl rfl (any_of HT_.out (by kernel_rfl)) (fun _ _ _ h => h) (Or.inl ⟨by rfl, ?_⟩) ?_ ?_
     rotate_left
     ·intro w'
      go_simp
      with_reducible rfl
     rotate_left
     ·simp only [Act.put, List.setIfInBounds_toArray, List.set_cons_zero, List.set_cons_succ, i64_w, i32_w]
      rfl
     refine pure_ (i := 5) (N := some 57) (v := ?_) (a' := ?_) #[true, true, true, true, true, true, false, true, false, false] rfl rfl (any_of HT_.out (by kernel_rfl)) (fun _ _ _ h => h) (Or.inl ⟨by rfl, ?_⟩) ?_ ?_
     rotate_left
     ·intro w'
      go_simp
      with_reducible rfl
     rotate_left
     ·simp only [Act.put, List.setIfInBounds_toArray, List.set_cons_zero, List.set_cons_succ, i64_w, i32_w]
      rfl
     refine pure_ (i := 6) (N := some 58) (v := ?_) (a' := ?_) #[true, true, true, true, true, true, true, true, false, false] rfl rfl (any_of HT_.out (by kernel_rfl)) (fun _ _ _ h => h) (Or.inl ⟨by rfl, ?_⟩) ?_ ?_
     rotate_left
     ·intro w'
      go_simp
      with_reducible rfl
     rotate_left
     ·simp only [Act.put, List.setIfInBounds_toArray, List.set_cons_zero, List.set_cons_succ, i64_w, i32_w]
      rfl
     exact hCont (Value.slice Ab rb.length cb, Value.slice Ax p.length cx, gx) w8 ⟨(blk_cell (blk_below BQ6.out Xw8.out) 0).trans rfl, ⟨Ax, cx, rfl, LX.out, Kd.S_lower (Kd.S_mono (Kd.S_bound SX.out) (fun k hk => by have := hk.2.1; have := blk_lt BX.out; show k ≠ gx; omega)) Xw7.out.size⟩, Xw8.out, GX.out, (blk_below BX.out hb2)⟩
   ·refine box_step (by rfl) (N := 9) rfl (cs := #[Value.slice none 0 0]) (t := 35) ?hr ?_
    case hr => first | (go_simp; done) | (go_simp; rfl)
    intro gx hgx w6 hbx hb
    have GX := am_ (show wq.heap.size ≤ gx from by rw [hgx]; exact Nat.le_refl _)
    have BX := am_ hbx
    have Xw6 := am_ hb
    refine hK.out _ _ ((blk_cell (blk_below BQ6.out Xw6.out) 0).trans rfl) (fun hHeld => ?_)
    clear hK K
    refine norm_ (a' := ?_) ?_ ?_
    rotate_left
    ·show Act.put _ (some 9) _ = _
     simp only [Act.put, List.setIfInBounds_toArray, List.set_cons_zero, List.set_cons_succ, i64_w, i32_w]
     rfl
    refine one_ (i := 2) (N := some 55) #[true, true, true, false, false, false, false, true, false, false] rfl rfl (one_of HT_.out (by kernel_rfl)) (by decide) (fun K hK => ?_)
    refine goes_ Try.func53 (by kernel_rfl) rfl #[.slice Ar row.length cr] (by rfl) rfl rfl (by (try simp only [List.map_toArray, List.map_cons, List.map_nil]); first | done | rfl) ?_
    with_reducible refine (laws_lpBack.calls k _ _ row rb _ (Kd.C_below CR6.out Xw6.out) LR.out F6.out.1).mono ?_
    rintro e w7 ⟨vb, rfl, hR, hb2⟩
    refine ⟨_, rfl, ?_⟩
    obtain ⟨Ab, cb, rfl⟩ := Kd.R_slice hR
    have CB := am_ (Kd.R_reads' hR).2.2
    have LB := am_ (Kd.R_reads' hR).2.1
    have Xw7 := am_ (below_then Xw6.out Xw6.out.size hb2)
    refine hK.out _ _ ((blk_cell (blk_below BQ6.out Xw7.out) 0).trans rfl) (fun hHeld => ?_)
    clear hK K
    refine norm_ (a' := ?_) ?_ ?_
    rotate_left
    ·show Act.put _ (some 55) _ = _
     simp only [Act.put, List.setIfInBounds_toArray, List.set_cons_zero, List.set_cons_succ, i64_w, i32_w]
     rfl
    refine one_ (i := 3) (N := some 56) #[true, true, true, true, false, false, false, true, false, false] rfl rfl (one_of HT_.out (by kernel_rfl)) (by decide) (fun K hK => ?_)
    refine goes_ Try.func48 (by kernel_rfl) rfl #[.agg #[.slice Aq want.length cq], .slice Ab rb.length cb] (by rfl) rfl rfl (by (try simp only [List.map_toArray, List.map_cons, List.map_nil]); first | done | rfl) ?_
    with_reducible refine (impl_TurnPlaces.calls k _ _ want _ _ rb p true _ (Kd.C_below CQ6.out Xw7.out) LQ.out CB.out LB.out F6.out.2.1).mono ?_
    rintro e w8 ⟨vx, rfl, hS, hb3⟩
    refine ⟨_, rfl, ?_⟩
    obtain ⟨Ax, cx, rfl⟩ := Kd.S_slice hS
    have SX := am_ hS
    have LX := am_ (Kd.S_reads' hS).2.1
    have Xw8 := am_ (below_then Xw7.out Xw7.out.size hb3)
    refine hK.out _ _ ((blk_cell (blk_below BQ6.out Xw8.out) 0).trans rfl) (fun hHeld => ?_)
    clear hK K
    refine norm_ (a' := ?_) ?_ ?_
    rotate_left
    ·show Act.put _ (some 56) _ = _
     simp only [Act.put, List.setIfInBounds_toArray, List.set_cons_zero, List.set_cons_succ, i64_w, i32_w]
     rfl
    refine pure_ (i := 4) (N := some 52) (v := ?_) (a' := ?_) #[true, true, true, true, true, false, false, true, false, false] rfl rfl (any_of HT_.out (by kernel_rfl)) (fun _ _ _ h => h) (Or.inl ⟨by rfl, ?_⟩) ?_ ?_
    rotate_left
    ·intro w'
     go_simp
     with_reducible rfl
    rotate_left
    ·simp only [Act.put, List.setIfInBounds_toArray, List.set_cons_zero, List.set_cons_succ, i64_w, i32_w]
     rfl
    refine pure_ (i := 5) (N := some 57) (v := ?_) (a' := ?_) #[true, true, true, true, true, true, false, true, false, false] rfl rfl (any_of HT_.out (by kernel_rfl)) (fun _ _ _ h => h) (Or.inl ⟨by rfl, ?_⟩) ?_ ?_
    rotate_left
    ·intro w'
     go_simp
     with_reducible rfl
    rotate_left
    ·simp only [Act.put, List.setIfInBounds_toArray, List.set_cons_zero, List.set_cons_succ, i64_w, i32_w]
     rfl
    refine pure_ (i := 6) (N := some 58) (v := ?_) (a' := ?_) #[true, true, true, true, true, true, true, true, false, false] rfl rfl (any_of HT_.out (by kernel_rfl)) (fun _ _ _ h => h) (Or.inl ⟨by rfl, ?_⟩) ?_ ?_
    rotate_left
    ·intro w'
     go_simp
     with_reducible rfl
    rotate_left
    ·simp only [Act.put, List.setIfInBounds_toArray, List.set_cons_zero, List.set_cons_succ, i64_w, i32_w]
     rfl
    exact hCont (Value.slice Ab rb.length cb, Value.slice Ax p.length cx, gx) w8 ⟨(blk_cell (blk_below BQ6.out Xw8.out) 0).trans rfl, ⟨Ax, cx, rfl, LX.out, Kd.S_lower (Kd.S_mono (Kd.S_bound SX.out) (fun k hk => by have := hk.2.1; have := blk_lt BX.out; have := hb2.size; show k ≠ gx; omega)) Xw7.out.size⟩, Xw8.out, GX.out, (blk_below (blk_below BX.out hb2) hb3)⟩
  rintro ⟨vb, vx, gx⟩ w6 ⟨hHeld, ⟨Ax, cx, ex, lx, cxx⟩, hb, hgx, hbx⟩
  dsimp only at ex hgx hbx
  subst ex
  have SX7 := am_ cxx
  have CP8 := am_ (Kd.C_below CP6.out (below_set (g := gx) (j := 0) (v := .slice Ax p.length cx) hb hgx))
  have CQ8 := am_ (Kd.C_below CQ6.out (below_set (g := gx) (j := 0) (v := .slice Ax p.length cx) hb hgx))
  have LX := am_ lx
  have BX6 := am_ hbx
  have BP6' := am_ (blk_below BP6.out hb)
  have BQ6' := am_ (blk_below BQ6.out hb)
  have HB7 := am_ (below_then HB6.out HB6.out.size hb)
  have NP := am_ (show gp ≠ gx from by have := blk_lt BP6.out; omega)
  have NQ := am_ (show gq ≠ gx from by have := blk_lt BQ6.out; omega)
  have GW := am_ (show w.heap.size ≤ gx from by have := HB6.out.size; omega)
  clear cxx lx hbx hb hgx CP6 CQ6 CR6 BP6 BQ6 HB6
  refine norm_ (a' := ?_) ?_ ?_
  rotate_left
  ·simp only [putAll, Act.put, List.setIfInBounds_toArray, List.set_cons_zero, List.set_cons_succ]
   rfl
  refine one_ (i := 8) (N := none) #[true, true, true, true, true, true, true, true, true, false] rfl rfl (one_of HT_.out (by kernel_rfl)) (by decide) (fun K hK => ?_)
  have hs62 : w6.cell? ⟨gx, 0, none⟩ = some (.slice none 0 0) := (blk_cell BX6.out 0).trans rfl
  have hfs62 := blk_frozen BX6.out 0
  refine skip_ (w1 := ?_) (by rfl) rfl ?_ ?_
  rotate_left
  ·go_simp
   rfl
  have BX7 := am_ (blk_set BX6.out 0 (.slice Ax p.length cx))
  have BP7 := am_ (blk_far BP6'.out (p := ⟨gx, 0, none⟩) NP.out (.slice Ax p.length cx))
  have BQ7 := am_ (blk_far BQ6'.out (p := ⟨gx, 0, none⟩) NQ.out (.slice Ax p.length cx))
  have CX8 := am_ (Kd.S_reads' (Kd.S_far (p := ⟨gx, 0, none⟩) SX7.out (fun k hk => hk) (.slice Ax p.length cx))).2.2
  have HB8 := am_ (below_set (g := gx) (j := 0) (v := .slice Ax p.length cx) HB7.out GW.out)
  clear hs62 hfs62 SX7 BX6 BP6' BQ6' HB7
  refine hK.out _ _ ((blk_cell BQ7.out 0).trans rfl) (fun hHeld => ?_)
  clear hK K
  refine pure_ (i := 9) (N := some 10) (v := ?_) (a' := ?_) #[true, true, true, true, true, true, true, true, true, true] rfl rfl (any_of HT_.out (by kernel_rfl)) (fun _ _ _ h => h) (Or.inl ⟨by rfl, ?_⟩) ?_ ?_
  rotate_left
  ·intro w'
   go_simp
   with_reducible rfl
  rotate_left
  ·simp only [Act.put, List.setIfInBounds_toArray, List.set_cons_zero, List.set_cons_succ, i64_w, i32_w]
   rfl
  refine done_ (done_of HT_.out (by kernel_rfl)) ?_
  clear hHeld
  have hcx : (w6.setCell ⟨gx, 0, none⟩ (.slice Ax p.length cx)).cell? ⟨gx, 0, none⟩ = some (.slice Ax p.length cx) := (blk_cell BX7.out 0).trans rfl
  have hcp : (w6.setCell ⟨gx, 0, none⟩ (.slice Ax p.length cx)).cell? ⟨gp, 0, none⟩ = some (.slice Ap p.length cp) := (blk_cell BP7.out 0).trans rfl
  have hcq : (w6.setCell ⟨gx, 0, none⟩ (.slice Ax p.length cx)).cell? ⟨gq, 0, none⟩ = some (.slice Aq want.length cq) := (blk_cell BQ7.out 0).trans rfl
  generalize (w6.setCell ⟨gx, 0, none⟩ (.slice Ax p.length cx)) = wz at hcx hcp hcq CP8 CQ8 CX8 BP7 BQ7 BX7 HB8 ⊢
  go_wp2_with (go_at_call 30; refine park ?_)
  refine ⟨?_⟩
  refine (laws_lpProg.calls k _ _ p _ _ p true _ CX8.out LX.out CP8.out LP.out F6.out.2.2).mono ?_
  rintro e y1 ⟨rfl, hb1⟩
  have hcq1 : y1.cell? ⟨gq, 0, none⟩ = some (.slice Aq want.length cq) := (blk_cell (blk_below BQ7.out hb1) 0).trans rfl
  go_wp2_with fail
  refine bodyPost_ret (results_tmp rfl _ _ _) rfl ?_
  exact ⟨rfl, below_then HB8.out HB8.out.size hb1⟩
def laws_FnTurnPlaces.Pure : Prop := ∀ (l0 : List Int), l0.length ≤ maxLen → l0.length * 1 ≤ 140737488351232 → (∀ x ∈ l0, (Lit.int .u8 x).wf = true) → ∃ k p want row rb told m, (l0.length : Int) > 1048576 ∨ laws_FnTurnPlaces.Facts k l0 p want row rb told m
theorem laws_FnTurnPlaces.walk (P : laws_FnTurnPlaces.Pure) (a0 : Option Addr) (len0 cap0 : Nat) (z0 : List Int) (w : World) (w0 : (a0 = none ∧ len0 = 0 ∧ cap0 = 0 ∧ z0 = []) ∨ ∃ x, a0 = some x ∧ len0 ≤ cap0 ∧ cap0 ≤ maxLen ∧ z0.length = cap0 ∧ (∀ i, i < z0.length → w.cell? (x.add i) = some (.int .u8 (z0.getD i 0))) ∧ ∀ n ∈ z0, (Lit.int .u8 n).wf = true) (y0 : len0 * 1 ≤ 140737488351232) :
  Calls Try.prog 16 #[.slice a0 len0 cap0] w fun e w' => e = .returned (.bool true) ∧ Below w.heap.size w w' := by
 obtain ⟨l0, rfl, hr0, hm0, hw0, hc0⟩ := ReadsInt.ofRowC w0
 obtain ⟨k, p, want, row, rb, told, m, h⟩ := P l0 hm0 y0 hw0
 refine (laws_FnTurnPlaces.calls k _ _ l0 w p want row rb told m (Kd.C_of_reads (d := (0 : Int)) (h1 := fun _ => rfl) hr0) hc0 h).mono ?_
 rintro e w' ⟨rfl, hd⟩
 exact ⟨rfl, hd⟩


end Go.Proofs.Ytefkbmhkhpekjaa.PB

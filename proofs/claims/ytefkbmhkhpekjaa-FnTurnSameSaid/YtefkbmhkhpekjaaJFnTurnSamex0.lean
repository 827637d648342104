-- Joined by wip/mclaim.py out of YtefkbmhkhpekjaaPBx92, YtefkbmhkhpekjaaPBx101, YtefkbmhkhpekjaaPBx50, YtefkbmhkhpekjaaPBx100, YtefkbmhkhpekjaaPBx51, YtefkbmhkhpekjaaPBx52, YtefkbmhkhpekjaaPBx17
import Derived.Test.YtefkbmhkhpekjaaPBx0
import Derived.Test.YtefkbmhkhpekjaaJFnTurnSamex1
import Derived.Test.YtefkbmhkhpekjaaJFnTurnSameyPBx123
import Derived.Test.YtefkbmhkhpekjaaJFnTurnSameyPBx124
import Derived.Test.YtefkbmhkhpekjaaPBx43
import Derived.Test.YtefkbmhkhpekjaaJFnTurnSamex2
import Derived.Test.YtefkbmhkhpekjaaPBx30
namespace Go.Proofs.Ytefkbmhkhpekjaa.PB
open Go.RowKit Go.Proofs.YtefkbmhkhpekjaaW.PrintWords Go.Proofs.YtefkbmhkhpekjaaW.PrintLast Go.Proofs.YtefkbmhkhpekjaaW.PrintMore
attribute [local go_sem] max2_int min2_int max_two min_two max_three min_three max_four min_four   -- for this text's walks alone
open Go.Proofs.YtefkbmhkhpekjaaMine
set_option linter.unusedVariables false
set_option linter.unusedSimpArgs false

theorem z92_1 {p : Prop} (h : p := by first | rfl | (simp [errW_none, errW_some] <;> rfl) | (simp [*, errW_none, errW_some] <;> rfl)) : p := h
theorem z92_2 {p : Prop} (h : p := by repeat (first | (with_reducible first | exact HK.out | apply KeepBut.set_ | apply keep_drewN | apply keep_drew | apply keep_alloc) | exact HK.out)) : p := h
theorem z92_3 {p : Prop} (h : p := by repeat (first | (with_reducible first | exact HI0.out | apply IsS116.alloc | apply IsS116.drewN | apply IsS116.drew | apply IsS116.set_1) | exact HI0.out)) : p := h
theorem z92_4 {p : Prop} (h : p := by repeat (first | (with_reducible first | exact HB.out | apply below_alloc | apply pw_below_drewN | apply below_drew1 | refine below_set ?_ (IsS116.ge HI0.out)) | exact HB.out)) : p := h
theorem z92_5 {p : Prop} (h : p := by repeat (first | (with_reducible first | exact HK.out | apply KeepBut.set_ | apply keep_drewN | apply keep_drew | apply keep_alloc | refine keep_far ?_ GW837.out _) | exact HK.out)) : p := h
theorem z92_6 {p : Prop} (h : p := by repeat (first | (with_reducible first | exact HI0.out | apply IsS116.alloc | apply IsS116.drewN | apply IsS116.drew | apply IsS116.set_1 | refine IsS116.far ?_ NB0_837.out _) | exact HI0.out)) : p := h
theorem z92_7 {p : Prop} (h : p := by repeat (first | (with_reducible first | exact HB.out | apply below_alloc | apply pw_below_drewN | apply below_drew1 | refine below_set ?_ (IsS116.ge HI0.out) | refine below_set ?_ GE837.out) | exact HB.out)) : p := h
theorem z92_8 {p : Prop} (h : p := by repeat (first | (with_reducible first | exact HK.out | apply KeepBut.set_ | apply keep_drewN | apply keep_drew | apply keep_alloc | refine keep_far ?_ GW837.out _ | refine keep_far ?_ GW842.out _) | exact HK.out)) : p := h
theorem z92_9 {p : Prop} (h : p := by repeat (first | (with_reducible first | exact HI0.out | apply IsS116.alloc | apply IsS116.drewN | apply IsS116.drew | apply IsS116.set_1 | refine IsS116.far ?_ NB0_837.out _ | refine IsS116.far ?_ NB0_842.out _) | exact HI0.out)) : p := h
theorem z92_10 {p : Prop} (h : p := by repeat (first | (with_reducible first | exact HB.out | apply below_alloc | apply pw_below_drewN | apply below_drew1 | refine below_set ?_ (IsS116.ge HI0.out) | refine below_set ?_ GE837.out | refine below_set ?_ GE842.out) | exact HB.out)) : p := h
theorem z92_11 {p : Prop} (h : p := by (with_reducible repeat (first | refine blk_drewN ?_ _ | refine blk_drew ?_ | refine blk_alloc ?_ _)); refine blk_far ?_ NB837_842.out _; (with_reducible repeat (first | refine blk_drewN ?_ _ | refine blk_drew ?_ | refine blk_alloc ?_ _)); exact BK837.out) : p := h
theorem z92_12 {p : Prop} (h : p := by (with_reducible repeat (first | refine blk_drewN ?_ _ | refine blk_drew ?_ | refine blk_alloc ?_ _)); refine blk_put (cs := #[.slice none 0 0]) ?_ 0 _ rfl; (with_reducible repeat (first | refine blk_drewN ?_ _ | refine blk_drew ?_ | refine blk_alloc ?_ _)); exact BK842.out) : p := h
theorem z92_13 {p : Prop} (h : p := by (with_reducible repeat (first | refine blk_drewN ?_ _ | refine blk_drew ?_ | refine blk_alloc ?_ _)); refine blk_put (cs := #[.slice none 0 0]) ?_ 0 _ rfl; (with_reducible repeat (first | refine blk_drewN ?_ _ | refine blk_drew ?_ | refine blk_alloc ?_ _)); exact BK837.out) : p := h
/-! ### spec_l71Any: function 92 -/
def spec_l71Any.f (k : Nat) (s0_0 : List Int) (s0_1 : Int) : Option ((List (List (S85))) × Int) := (spec_l71Prog.f k s0_0 s0_1).bind fun bt838 => ((spec_l6Rd_pick.f k s0_0 bt838.2 16).bind fun bt843 => (if bt843.1 = 0 then ((spec_l71Bad.f k s0_0 bt843.2 bt838.1).bind fun bt845 => (some (bt845.1, bt845.2))) else (some (bt838.1, bt843.2))))
theorem spec_l71Any.mono : ∀ a0 a1 k, LeO (spec_l71Any.f k a0 a1) (spec_l71Any.f (k + 1) a0 a1) := by
  intro a0 a1 k
  unfold spec_l71Any.f
  repeat' first
      | (with_reducible exact spec_l6Rd_pick.mono _ _ _ _)
      | (with_reducible exact spec_l71Bad.mono _ _ _ _)
      | (with_reducible exact spec_l71Prog.mono _ _ _)
      | (with_reducible exact LeO.refl _)
      | (with_reducible exact LeO.none _)
      | (with_reducible refine LeO.ite ?_ ?_)
      | (with_reducible refine LeO.bind ?_ (fun _ => ?_))
      | exact spec_l6Rd_pick.mono _ _ _ _
      | exact spec_l71Bad.mono _ _ _ _
      | exact spec_l71Prog.mono _ _ _
      | exact LeO.none _
      | refine LeO.ite ?_ ?_
      | refine LeO.bind ?_ (fun _ => ?_)
set_option maxHeartbeats 8000000 in
set_option maxRecDepth 100000 in
theorem spec_l71Any.calls (k : Nat) (g : Nat) (s0_0 : List Int) (s0_1 : Int) (r1 : List (List (S85))) (r2 : Int) (w0 w : World) (hI : IsS116 w0 w g s0_0 s0_1) (hB : Below w0.heap.size w0 w) (h : spec_l71Any.f k s0_0 s0_1 = some (r1, r2)) :
  Calls Try.prog 92 #[.pointer (some ⟨g, 0, none⟩)] w fun e w' => ∃ v0_ : Value, e = .returned (.agg #[v0_]) ∧ Kd.N (Kd.slice 85 k85) 82 w' w.heap.size (fun k_ => (w.heap.size ≤ k_)) v0_ r1 ∧ IsS116 w0 w' g s0_0 r2 ∧ Below w0.heap.size w0 w' ∧ KeepBut w w' g none := by
 have hu35 := Try.underlying35
 have HI0 := am_ hI
 have HK := am_ (KeepBut.refl w g none)
 have HL := am_ hB.size
 clear hI
 have HW0 := am_ hB.size
 have HB := am_ hB
 clear hB
 have H : ((spec_l71Prog.f k s0_0 s0_1).bind fun bt838 => ((spec_l6Rd_pick.f k s0_0 bt838.2 16).bind fun bt843 => (if bt843.1 = 0 then ((spec_l71Bad.f k s0_0 bt843.2 bt838.1).bind fun bt845 => (some (bt845.1, bt845.2))) else (some (bt838.1, bt843.2))))) = some (r1, r2) := h
 clear h
 replace H := Option.bind_eq_some_iff.mp H
 obtain ⟨⟨t838, t841⟩, A20, H⟩ := H
 replace H : ((spec_l6Rd_pick.f k s0_0 t841 16).bind fun bt843 => (if bt843.1 = 0 then ((spec_l71Bad.f k s0_0 bt843.2 t838).bind fun bt845 => (some (bt845.1, bt845.2))) else (some (t838, bt843.2)))) = some (r1, r2) := H
 have A2 := am_ A20
 clear A20
 replace H := Option.bind_eq_some_iff.mp H
 obtain ⟨⟨t843, t844⟩, A30, H⟩ := H
 replace H : (if t843 = 0 then ((spec_l71Bad.f k s0_0 t844 t838).bind fun bt845 => (some (bt845.1, bt845.2))) else (some (t838, t844))) = some (r1, r2) := H
 have A3 := am_ A30
 clear A30
 by_cases c4 : t843 = 0
 ·rw [if_pos c4] at H
  have c4b0 : (t843 == 0) = true := beq_iff_eq.mpr c4
  have c4b1 : (t843 != 0) = false := bne_eq_false_iff_eq.mpr c4
  clear c4
  replace H := Option.bind_eq_some_iff.mp H
  obtain ⟨⟨t845, t848⟩, A50, H⟩ := H
  replace H : (some (t845, t848)) = some (r1, r2) := H
  have A5 := am_ A50
  clear A50
  simp only [Option.some.injEq, Prod.mk.injEq] at H
  obtain ⟨rfl, rfl⟩ := H
  go_enter Try.func92, Try.ntmps92
  go_wp2_with (first | ((with_reducible refine gate_dst (N := 2) rfl ?_); refine box_event ?hg (N := 2) ?hd (cs := #[.slice none 0 0]) (t := 35) ?hr ?_; (case hd => rfl); (case hg => rfl); (case hr => first | (go_simp; done) | (go_simp; rfl)); intro gb837 hg w6 hbox hb; have n0_ := am_ (IsS116.below z92_3 hb); have n1_ := am_ (KeepBut.trans z92_2 (KeepBut.of_below hb g none) (.inl rfl)); have n2_ := am_ (below_step z92_4 hb); have n3_ := am_ (hbox); have n4_ := am_ (by rw [hg]; exact (keep_size (w := w) (g := g) (row := none) z92_2) : w.heap.size ≤ gb837); have n5_ := am_ (Nat.le_trans HW0.out (by rw [hg]; exact (keep_size (w := w) (g := g) (row := none) z92_2) : w.heap.size ≤ gb837) : w0.heap.size ≤ gb837); have n6_ := am_ (by rw [hg]; exact Nat.ne_of_lt (IsS116.lt (show IsS116 w0 _ g s0_0 s0_1 from by repeat (first | (with_reducible first | exact HI0.out | apply IsS116.alloc | apply IsS116.drewN | apply IsS116.drew | apply IsS116.set_1) | exact HI0.out))) : g ≠ gb837); have n7_ := am_ (by rw [hg]; exact Nat.ne_of_gt (IsS116.lt (show IsS116 w0 _ g s0_0 s0_1 from by repeat (first | (with_reducible first | exact HI0.out | apply IsS116.alloc | apply IsS116.drewN | apply IsS116.drew | apply IsS116.set_1) | exact HI0.out))) : gb837 ≠ g); clear HI0 HK HB; have HI0 := n0_; have HK := n1_; have HB := n2_; have BK837 := n3_; have GW837 := n4_; have GE837 := n5_; have NB0_837 := n6_; have NB837_0 := n7_; clear n0_ n1_ n2_ n3_ n4_ n5_ n6_ n7_; clear hb hbox hg) | ((with_reducible refine gate_callee (f := 123) rfl ?_); refine goesL_ (some 5) rfl rfl Try.func123 (by kernel_rfl) rfl #[.pointer (some ⟨g, 0, none⟩)] rfl (by (try simp only [List.map_toArray, List.map_cons, List.map_nil]); first | done | rfl | (simp only [List.length_drop, List.length_take]; rfl)) ?_; (with_reducible refine (spec_l71Prog.calls k g s0_0 s0_1 t838 t841 w0 _ ?side1 ?side2 A2.out).mono ?_); (case side1 => repeat (first | (with_reducible first | exact HI0.out | apply IsS116.alloc | apply IsS116.drewN | apply IsS116.drew | apply IsS116.set_1 | refine IsS116.far ?_ NB0_837.out _) | exact HI0.out)); (case side2 => repeat (first | (with_reducible first | exact HB.out | apply below_alloc | apply pw_below_drewN | apply below_drew1 | refine below_set ?_ (IsS116.ge HI0.out) | refine below_set ?_ GE837.out) | exact HB.out)); rintro e w7 ⟨v839, rfl, ho0, hi, hb, hk⟩; refine ⟨_, rfl, ?_⟩; have n0_ := am_ (KeepBut.blk hk (bu BK837.out) NB837_0.out (by simp)); have n1_ := am_ (Kd.N_lower (Kd.N_mono (ok' := fun k_ => (w.heap.size ≤ k_) ∧ k_ ≠ gb837 ∧ k_ ≠ g) (Kd.S_N (Kd.S_bound ho0)) (fun k_ hk_ => ⟨(Nat.le_trans (keep_size (w := w) (g := g) (row := none) z92_5) hk_.2.1), (Kd.freshB (bu BK837.out) k_ hk_.2.1), (IsS116.fresh z92_6 k_ hk_.2.1)⟩)) (keep_size (w := w) (g := g) (row := none) z92_5)); have n2_ := am_ (KeepBut.trans z92_5 hk (.inl rfl)); have n3_ := am_ (hb); have n4_ := am_ (hi); clear BK837 HK HB HI0; have BK837 := n0_; have HO840 := n1_; have HK := n2_; have HB := n3_; have HI0 := n4_; clear n0_ n1_ n2_ n3_ n4_; (try clear hb); (try clear hb2); (try clear hk); (try clear hi); (try clear ho0)) | ((with_reducible refine gate_dst (N := 3) rfl ?_); refine box_event ?hg (N := 3) ?hd (cs := #[.slice none 0 0]) (t := 35) ?hr ?_; (case hd => rfl); (case hg => rfl); (case hr => first | (go_simp; done) | (go_simp; rfl)); intro gb842 hg w8 hbox hb; have n0_ := am_ (Kd.N_below (Kd.N_elderB (nu HO840.out) gb842 (Nat.le_of_eq hg.symm)) hb); have n1_ := am_ (IsS116.below z92_6 hb); have n2_ := am_ (blk_below (bu BK837.out) hb); have n3_ := am_ (KeepBut.trans z92_5 (KeepBut.of_below hb g none) (.inl rfl)); have n4_ := am_ (below_step z92_7 hb); have n5_ := am_ (hbox); have n6_ := am_ (by rw [hg]; exact (keep_size (w := w) (g := g) (row := none) z92_5) : w.heap.size ≤ gb842); have n7_ := am_ (Nat.le_trans HW0.out (by rw [hg]; exact (keep_size (w := w) (g := g) (row := none) z92_5) : w.heap.size ≤ gb842) : w0.heap.size ≤ gb842); have n8_ := am_ (by rw [hg]; exact Nat.ne_of_lt (blk_lt (bu BK837.out)) : gb837 ≠ gb842); have n9_ := am_ (by rw [hg]; exact Nat.ne_of_gt (blk_lt (bu BK837.out)) : gb842 ≠ gb837); have n10_ := am_ (by rw [hg]; exact Nat.ne_of_lt (IsS116.lt (show IsS116 w0 _ g s0_0 t841 from by repeat (first | (with_reducible first | exact HI0.out | apply IsS116.alloc | apply IsS116.drewN | apply IsS116.drew | apply IsS116.set_1 | refine IsS116.far ?_ NB0_837.out _) | exact HI0.out))) : g ≠ gb842); have n11_ := am_ (by rw [hg]; exact Nat.ne_of_gt (IsS116.lt (show IsS116 w0 _ g s0_0 t841 from by repeat (first | (with_reducible first | exact HI0.out | apply IsS116.alloc | apply IsS116.drewN | apply IsS116.drew | apply IsS116.set_1 | refine IsS116.far ?_ NB0_837.out _) | exact HI0.out))) : gb842 ≠ g); clear HO840 HI0 BK837 HK HB; have HO840 := n0_; have HI0 := n1_; have BK837 := n2_; have HK := n3_; have HB := n4_; have BK842 := n5_; have GW842 := n6_; have GE842 := n7_; have NB837_842 := n8_; have NB842_837 := n9_; have NB0_842 := n10_; have NB842_0 := n11_; clear n0_ n1_ n2_ n3_ n4_ n5_ n6_ n7_ n8_ n9_ n10_ n11_; clear hb hbox hg; obtain ⟨Ao9, co9, eo9⟩ := Kd.N_slice HO840.out; subst eo9; have hnb10 := NB842_837.out; have hnc10 := NB837_842.out; have hnb11 := NB842_0.out; have hnc11 := NB0_842.out; have hcz12_0 : w8.cell? ⟨gb842, 0, none⟩ = some (.slice none 0 0) := (blk_cell BK842.out 0).trans rfl; have hfz12_0 := blk_frozen BK842.out 0) | ((with_reducible refine gate_callee (f := 71) rfl ?_); refine goesL_ (some 7) rfl rfl Try.func71 (by kernel_rfl) rfl #[.pointer (some ⟨g, 0, none⟩), .int .i64 16] rfl (by (try simp only [List.map_toArray, List.map_cons, List.map_nil]); first | done | rfl | (simp only [List.length_drop, List.length_take]; rfl)) ?_; (with_reducible refine (spec_l6Rd_pick.calls k g s0_0 t841 16 t843 t844 w0 _ ?side1 ?side2 A3.out).mono ?_); (case side1 => repeat (first | (with_reducible first | exact HI0.out | apply IsS116.alloc | apply IsS116.drewN | apply IsS116.drew | apply IsS116.set_1 | refine IsS116.far ?_ NB0_837.out _ | refine IsS116.far ?_ NB0_842.out _) | exact HI0.out)); (case side2 => repeat (first | (with_reducible first | exact HB.out | apply below_alloc | apply pw_below_drewN | apply below_drew1 | refine below_set ?_ (IsS116.ge HI0.out) | refine below_set ?_ GE837.out | refine below_set ?_ GE842.out) | exact HB.out)); rintro e w13 ⟨rfl, hi, hb, hk⟩; refine ⟨_, rfl, ?_⟩; have n0_ := am_ (KeepBut.blk hk (g' := gb837) (o := .cells #[.slice none 0 0] 35 (0, 0)) z92_11 NB837_0.out (by simp)); have n1_ := am_ (Kd.N_mono (Kd.N_keep (Kd.N_mono (ok := fun k_ => ((((w.heap.size ≤ k_)) ∧ (k_ ≠ gb837 ∧ k_ ≠ g)) ∧ k_ ≠ gb842)) (nu (Kd.N_mono (Kd.N_far (p := ⟨gb842, 0, none⟩) (Kd.N_mono HO840.out (fun k_ hk => (⟨hk, hk.2⟩ : _ ∧ k_ ≠ gb842))) (fun _ hk => hk.2) (.slice Ao9 t838.length co9)) (fun _ h_ => h_.1))) (fun k_ hk_ => (⟨hk_, hk_.1.2.2⟩ : _ ∧ k_ ≠ g))) hk (fun _ h => h.2)) (fun _ h => h.1)); have n2_ := am_ (KeepBut.blk hk (g' := gb842) (o := .cells #[.slice Ao9 t838.length co9] 35 (0, 0)) z92_12 NB842_0.out (by simp)); have n3_ := am_ (KeepBut.trans z92_8 hk (.inl rfl)); have n4_ := am_ (hb); have n5_ := am_ (hi); clear BK837 HO840 BK842 HK HB HI0; have BK837 := n0_; have HO840 := n1_; have BK842 := n2_; have HK := n3_; have HB := n4_; have HI0 := n5_; clear n0_ n1_ n2_ n3_ n4_ n5_; (try clear hb); (try clear hb2); (try clear hk); (try clear hi); have hcz14_0 : w13.cell? ⟨gb842, 0, none⟩ = some (.slice Ao9 t838.length co9) := (blk_cell BK842.out 0).trans rfl; have hfz14_0 := blk_frozen BK842.out 0) | ((with_reducible refine gate_callee (f := 124) rfl ?_); refine goesL_ (some 11) rfl rfl Try.func124 (by kernel_rfl) rfl #[.pointer (some ⟨g, 0, none⟩), .agg #[.slice Ao9 t838.length co9]] rfl (by (try simp only [List.map_toArray, List.map_cons, List.map_nil]); first | done | rfl | (simp only [List.length_drop, List.length_take]; rfl)) ?_; (with_reducible refine (spec_l71Bad.calls k g s0_0 t844 (fun k_ => (((w.heap.size ≤ k_) ∧ (k_ ≠ gb837 ∧ k_ ≠ g)) ∧ k_ ≠ gb842)) _ _ t838 t845 t848 w0 _ ?side1 ?side2 ?side3 A5.out).mono ?_); (case side1 => repeat (first | (with_reducible first | exact HI0.out | apply IsS116.alloc | apply IsS116.drewN | apply IsS116.drew | apply IsS116.set_1 | refine IsS116.far ?_ NB0_837.out _ | refine IsS116.far ?_ NB0_842.out _) | exact HI0.out)); (case side2 => repeat (first | (with_reducible first | exact HB.out | apply below_alloc | apply pw_below_drewN | apply below_drew1 | refine below_set ?_ (IsS116.ge HI0.out) | refine below_set ?_ GE837.out | refine below_set ?_ GE842.out) | exact HB.out)); (case side3 => exact Kd.V_mono (Kd.N_V (HO840.out)) (fun k_ hk_ => ⟨hk_, hk_.1.2.2⟩)); rintro e w15 ⟨v846, rfl, ho0, hi, hb, hk⟩; refine ⟨_, rfl, ?_⟩; have n0_ := am_ (KeepBut.blk hk (bu BK837.out) NB837_0.out (by simp)); have n1_ := am_ (Kd.N_mono (Kd.N_told (Kd.N_oldK (Kd.N_mono (ok := fun k_ => ((((w.heap.size ≤ k_)) ∧ (k_ ≠ gb837 ∧ k_ ≠ g)) ∧ k_ ≠ gb842)) (nu HO840.out) (fun k_ hk_ => (⟨hk_, hk_.1.2.2⟩ : _ ∧ k_ ≠ g))) hk) (by first | exact Kd.N_base ho0 | exact Kd.S_base ho0)) (fun _ h_ => h_.1)); have n2_ := am_ (KeepBut.blk hk (bu BK842.out) NB842_0.out (by simp)); have n3_ := am_ (Kd.N_lower (Kd.N_mono (ok' := fun k_ => (w.heap.size ≤ k_) ∧ k_ ≠ gb837 ∧ k_ ≠ gb842 ∧ k_ ≠ g) ho0 (fun k_ hk_ => ⟨Or.elim hk_ (fun hs_ => hs_.1.1) (fun hn_ => (Nat.le_trans (keep_size (w := w) (g := g) (row := none) z92_8) hn_)), Or.elim hk_ (fun hs_ => hs_.1.2.1) (fun hn_ => (Kd.freshB (bu BK837.out) k_ hn_)), Or.elim hk_ (fun hs_ => hs_.2) (fun hn_ => (Kd.freshB (bu BK842.out) k_ hn_)), Or.elim hk_ (fun hs_ => hs_.1.2.2) (fun hn_ => (IsS116.fresh z92_9 k_ hn_))⟩)) (keep_size (w := w) (g := g) (row := none) z92_8)); have n4_ := am_ (KeepBut.trans z92_8 hk (.inl rfl)); have n5_ := am_ (hb); have n6_ := am_ (hi); clear BK837 HO840 BK842 HK HB HI0; have BK837 := n0_; have HO840 := n1_; have BK842 := n2_; have HO847 := n3_; have HK := n4_; have HB := n5_; have HI0 := n6_; clear n0_ n1_ n2_ n3_ n4_ n5_ n6_; (try clear hb); (try clear hb2); (try clear hk); (try clear hi); (try clear ho0); obtain ⟨Ao16, co16, eo16⟩ := Kd.N_slice HO847.out; subst eo16; have hnb17 := NB837_0.out; have hnc17 := NB0_837.out; have hcz18_0 : w15.cell? ⟨gb837, 0, none⟩ = some (.slice none 0 0) := (blk_cell BK837.out 0).trans rfl; have hfz18_0 := blk_frozen BK837.out 0))
  refine bodyPost_ret (results_cell_row rfl _ _ gb837 35 #[.slice Ao16 t845.length co16] (0, 0) _ rfl z92_13 Try.underlying35 rfl (by kernel_rfl)) rfl ?_
  exact ⟨_, z92_1, nu (Kd.N_mono (Kd.N_far (p := ⟨gb837, 0, none⟩) (Kd.N_mono HO847.out (fun k_ hk => (⟨hk, hk.2.1⟩ : _ ∧ k_ ≠ gb837))) (fun _ hk => hk.2) (.slice Ao16 t845.length co16)) (fun _ hk => hk.1.1)), z92_9, z92_10, z92_8⟩
 ·rw [if_neg c4] at H
  have c4b0 : (t843 == 0) = false := beq_eq_false_iff_ne.mpr c4
  have c4b1 : (t843 != 0) = true := bne_iff_ne.mpr c4
  simp only [Option.some.injEq, Prod.mk.injEq] at H
  obtain ⟨rfl, rfl⟩ := H
  go_enter Try.func92, Try.ntmps92
  go_wp2_with (first | ((with_reducible refine gate_dst (N := 2) rfl ?_); refine box_event ?hg (N := 2) ?hd (cs := #[.slice none 0 0]) (t := 35) ?hr ?_; (case hd => rfl); (case hg => rfl); (case hr => first | (go_simp; done) | (go_simp; rfl)); intro gb837 hg w19 hbox hb; have n0_ := am_ (IsS116.below z92_3 hb); have n1_ := am_ (KeepBut.trans z92_2 (KeepBut.of_below hb g none) (.inl rfl)); have n2_ := am_ (below_step z92_4 hb); have n3_ := am_ (hbox); have n4_ := am_ (by rw [hg]; exact (keep_size (w := w) (g := g) (row := none) z92_2) : w.heap.size ≤ gb837); have n5_ := am_ (Nat.le_trans HW0.out (by rw [hg]; exact (keep_size (w := w) (g := g) (row := none) z92_2) : w.heap.size ≤ gb837) : w0.heap.size ≤ gb837); have n6_ := am_ (by rw [hg]; exact Nat.ne_of_lt (IsS116.lt (show IsS116 w0 _ g s0_0 s0_1 from by repeat (first | (with_reducible first | exact HI0.out | apply IsS116.alloc | apply IsS116.drewN | apply IsS116.drew | apply IsS116.set_1) | exact HI0.out))) : g ≠ gb837); have n7_ := am_ (by rw [hg]; exact Nat.ne_of_gt (IsS116.lt (show IsS116 w0 _ g s0_0 s0_1 from by repeat (first | (with_reducible first | exact HI0.out | apply IsS116.alloc | apply IsS116.drewN | apply IsS116.drew | apply IsS116.set_1) | exact HI0.out))) : gb837 ≠ g); clear HI0 HK HB; have HI0 := n0_; have HK := n1_; have HB := n2_; have BK837 := n3_; have GW837 := n4_; have GE837 := n5_; have NB0_837 := n6_; have NB837_0 := n7_; clear n0_ n1_ n2_ n3_ n4_ n5_ n6_ n7_; clear hb hbox hg) | ((with_reducible refine gate_callee (f := 123) rfl ?_); refine goesL_ (some 5) rfl rfl Try.func123 (by kernel_rfl) rfl #[.pointer (some ⟨g, 0, none⟩)] rfl (by (try simp only [List.map_toArray, List.map_cons, List.map_nil]); first | done | rfl | (simp only [List.length_drop, List.length_take]; rfl)) ?_; (with_reducible refine (spec_l71Prog.calls k g s0_0 s0_1 t838 t841 w0 _ ?side1 ?side2 A2.out).mono ?_); (case side1 => repeat (first | (with_reducible first | exact HI0.out | apply IsS116.alloc | apply IsS116.drewN | apply IsS116.drew | apply IsS116.set_1 | refine IsS116.far ?_ NB0_837.out _) | exact HI0.out)); (case side2 => repeat (first | (with_reducible first | exact HB.out | apply below_alloc | apply pw_below_drewN | apply below_drew1 | refine below_set ?_ (IsS116.ge HI0.out) | refine below_set ?_ GE837.out) | exact HB.out)); rintro e w20 ⟨v839, rfl, ho0, hi, hb, hk⟩; refine ⟨_, rfl, ?_⟩; have n0_ := am_ (KeepBut.blk hk (bu BK837.out) NB837_0.out (by simp)); have n1_ := am_ (Kd.N_lower (Kd.N_mono (ok' := fun k_ => (w.heap.size ≤ k_) ∧ k_ ≠ gb837 ∧ k_ ≠ g) (Kd.S_N (Kd.S_bound ho0)) (fun k_ hk_ => ⟨(Nat.le_trans (keep_size (w := w) (g := g) (row := none) z92_5) hk_.2.1), (Kd.freshB (bu BK837.out) k_ hk_.2.1), (IsS116.fresh z92_6 k_ hk_.2.1)⟩)) (keep_size (w := w) (g := g) (row := none) z92_5)); have n2_ := am_ (KeepBut.trans z92_5 hk (.inl rfl)); have n3_ := am_ (hb); have n4_ := am_ (hi); clear BK837 HK HB HI0; have BK837 := n0_; have HO840 := n1_; have HK := n2_; have HB := n3_; have HI0 := n4_; clear n0_ n1_ n2_ n3_ n4_; (try clear hb); (try clear hb2); (try clear hk); (try clear hi); (try clear ho0)) | ((with_reducible refine gate_dst (N := 3) rfl ?_); refine box_event ?hg (N := 3) ?hd (cs := #[.slice none 0 0]) (t := 35) ?hr ?_; (case hd => rfl); (case hg => rfl); (case hr => first | (go_simp; done) | (go_simp; rfl)); intro gb842 hg w21 hbox hb; have n0_ := am_ (Kd.N_below (Kd.N_elderB (nu HO840.out) gb842 (Nat.le_of_eq hg.symm)) hb); have n1_ := am_ (IsS116.below z92_6 hb); have n2_ := am_ (blk_below (bu BK837.out) hb); have n3_ := am_ (KeepBut.trans z92_5 (KeepBut.of_below hb g none) (.inl rfl)); have n4_ := am_ (below_step z92_7 hb); have n5_ := am_ (hbox); have n6_ := am_ (by rw [hg]; exact (keep_size (w := w) (g := g) (row := none) z92_5) : w.heap.size ≤ gb842); have n7_ := am_ (Nat.le_trans HW0.out (by rw [hg]; exact (keep_size (w := w) (g := g) (row := none) z92_5) : w.heap.size ≤ gb842) : w0.heap.size ≤ gb842); have n8_ := am_ (by rw [hg]; exact Nat.ne_of_lt (blk_lt (bu BK837.out)) : gb837 ≠ gb842); have n9_ := am_ (by rw [hg]; exact Nat.ne_of_gt (blk_lt (bu BK837.out)) : gb842 ≠ gb837); have n10_ := am_ (by rw [hg]; exact Nat.ne_of_lt (IsS116.lt (show IsS116 w0 _ g s0_0 t841 from by repeat (first | (with_reducible first | exact HI0.out | apply IsS116.alloc | apply IsS116.drewN | apply IsS116.drew | apply IsS116.set_1 | refine IsS116.far ?_ NB0_837.out _) | exact HI0.out))) : g ≠ gb842); have n11_ := am_ (by rw [hg]; exact Nat.ne_of_gt (IsS116.lt (show IsS116 w0 _ g s0_0 t841 from by repeat (first | (with_reducible first | exact HI0.out | apply IsS116.alloc | apply IsS116.drewN | apply IsS116.drew | apply IsS116.set_1 | refine IsS116.far ?_ NB0_837.out _) | exact HI0.out))) : gb842 ≠ g); clear HO840 HI0 BK837 HK HB; have HO840 := n0_; have HI0 := n1_; have BK837 := n2_; have HK := n3_; have HB := n4_; have BK842 := n5_; have GW842 := n6_; have GE842 := n7_; have NB837_842 := n8_; have NB842_837 := n9_; have NB0_842 := n10_; have NB842_0 := n11_; clear n0_ n1_ n2_ n3_ n4_ n5_ n6_ n7_ n8_ n9_ n10_ n11_; clear hb hbox hg; obtain ⟨Ao22, co22, eo22⟩ := Kd.N_slice HO840.out; subst eo22; have hnb23 := NB842_837.out; have hnc23 := NB837_842.out; have hnb24 := NB842_0.out; have hnc24 := NB0_842.out; have hcz25_0 : w21.cell? ⟨gb842, 0, none⟩ = some (.slice none 0 0) := (blk_cell BK842.out 0).trans rfl; have hfz25_0 := blk_frozen BK842.out 0) | ((with_reducible refine gate_callee (f := 71) rfl ?_); refine goesL_ (some 7) rfl rfl Try.func71 (by kernel_rfl) rfl #[.pointer (some ⟨g, 0, none⟩), .int .i64 16] rfl (by (try simp only [List.map_toArray, List.map_cons, List.map_nil]); first | done | rfl | (simp only [List.length_drop, List.length_take]; rfl)) ?_; (with_reducible refine (spec_l6Rd_pick.calls k g s0_0 t841 16 t843 t844 w0 _ ?side1 ?side2 A3.out).mono ?_); (case side1 => repeat (first | (with_reducible first | exact HI0.out | apply IsS116.alloc | apply IsS116.drewN | apply IsS116.drew | apply IsS116.set_1 | refine IsS116.far ?_ NB0_837.out _ | refine IsS116.far ?_ NB0_842.out _) | exact HI0.out)); (case side2 => repeat (first | (with_reducible first | exact HB.out | apply below_alloc | apply pw_below_drewN | apply below_drew1 | refine below_set ?_ (IsS116.ge HI0.out) | refine below_set ?_ GE837.out | refine below_set ?_ GE842.out) | exact HB.out)); rintro e w26 ⟨rfl, hi, hb, hk⟩; refine ⟨_, rfl, ?_⟩; have n0_ := am_ (KeepBut.blk hk (g' := gb837) (o := .cells #[.slice none 0 0] 35 (0, 0)) z92_11 NB837_0.out (by simp)); have n1_ := am_ (Kd.N_mono (Kd.N_keep (Kd.N_mono (ok := fun k_ => ((((w.heap.size ≤ k_)) ∧ (k_ ≠ gb837 ∧ k_ ≠ g)) ∧ k_ ≠ gb842)) (nu (Kd.N_mono (Kd.N_far (p := ⟨gb842, 0, none⟩) (Kd.N_mono HO840.out (fun k_ hk => (⟨hk, hk.2⟩ : _ ∧ k_ ≠ gb842))) (fun _ hk => hk.2) (.slice Ao22 t838.length co22)) (fun _ h_ => h_.1))) (fun k_ hk_ => (⟨hk_, hk_.1.2.2⟩ : _ ∧ k_ ≠ g))) hk (fun _ h => h.2)) (fun _ h => h.1)); have n2_ := am_ (KeepBut.blk hk (g' := gb842) (o := .cells #[.slice Ao22 t838.length co22] 35 (0, 0)) z92_12 NB842_0.out (by simp)); have n3_ := am_ (KeepBut.trans z92_8 hk (.inl rfl)); have n4_ := am_ (hb); have n5_ := am_ (hi); clear BK837 HO840 BK842 HK HB HI0; have BK837 := n0_; have HO840 := n1_; have BK842 := n2_; have HK := n3_; have HB := n4_; have HI0 := n5_; clear n0_ n1_ n2_ n3_ n4_ n5_; (try clear hb); (try clear hb2); (try clear hk); (try clear hi); have hcz27_0 : w26.cell? ⟨gb842, 0, none⟩ = some (.slice Ao22 t838.length co22) := (blk_cell BK842.out 0).trans rfl; have hfz27_0 := blk_frozen BK842.out 0; have hnb28 := NB837_0.out; have hnc28 := NB0_837.out; have hcz29_0 : w26.cell? ⟨gb837, 0, none⟩ = some (.slice none 0 0) := (blk_cell BK837.out 0).trans rfl; have hfz29_0 := blk_frozen BK837.out 0))
  refine bodyPost_ret (results_cell_row rfl _ _ gb837 35 #[.slice Ao22 t838.length co22] (0, 0) _ rfl z92_13 Try.underlying35 rfl (by kernel_rfl)) rfl ?_
  exact ⟨_, z92_1, nu (Kd.N_mono (Kd.N_far (p := ⟨gb837, 0, none⟩) (Kd.N_mono HO840.out (fun k_ hk => (⟨hk, hk.1.2.1⟩ : _ ∧ k_ ≠ gb837))) (fun _ hk => hk.2) (.slice Ao22 t838.length co22)) (fun _ hk => hk.1.1.1)), z92_9, z92_10, z92_8⟩

end Go.Proofs.Ytefkbmhkhpekjaa.PB

namespace Go.Proofs.Ytefkbmhkhpekjaa.PB
open Go.RowKit Go.Proofs.YtefkbmhkhpekjaaW.PrintWords Go.Proofs.YtefkbmhkhpekjaaW.PrintLast Go.Proofs.YtefkbmhkhpekjaaW.PrintMore
attribute [local go_sem] max2_int min2_int max_two min_two max_three min_three max_four min_four   -- for this text's walks alone
open Go.Proofs.YtefkbmhkhpekjaaMine
set_option linter.unusedVariables false
set_option linter.unusedSimpArgs false

theorem z101_1 {p : Prop} (h : p := by first | rfl | (simp; done) | (simp [*]; done)) : p := h
theorem z101_2 {p : Prop} (h : p := by first | (with_reducible assumption) | assumption) : p := h
theorem z101_3 {p : Prop} (h : p := by repeat (first | exact Drawn0.refl _ | apply Drawn0.step)) : p := h
/-! ### spec_l12Has: function 101 -/
def spec_l12Has.l0 : Nat → List Int → Int → Int → Option (Bool)
  | 0, _, _, _ => none
  | k + 1, x0, x1, x5 => if x5 < (x0.length : Int) then (if 0 ≤ x5 then (if (rd x0 x5) = x1 then (some true) else (spec_l12Has.l0 k x0 x1 (wrap64 (x5 + 1)))) else (none)) else (some false)
def spec_l12Has.f (k : Nat) (l0 : List Int) (a1 : Int) : Option (Bool) := spec_l12Has.l0 k l0 a1 0
theorem spec_l12Has.mono_l : ∀ k, (∀ y0 y1 y2, LeO (spec_l12Has.l0 k y0 y1 y2) (spec_l12Has.l0 (k + 1) y0 y1 y2))
  | 0 => fun _ _ _ r h => by simp [spec_l12Has.l0] at h
  | k + 1 => by
    have ih0 := spec_l12Has.mono_l k
    · intro y0 y1 y2
      unfold spec_l12Has.l0
      repeat' first
      | (with_reducible exact ih0 _ _ _)
      | (with_reducible exact LeO.refl _)
      | (with_reducible exact LeO.none _)
      | (with_reducible refine LeO.ite ?_ ?_)
      | (with_reducible refine LeO.bind ?_ (fun _ => ?_))
      | exact ih0 _ _ _
      | exact LeO.none _
      | refine LeO.ite ?_ ?_
      | refine LeO.bind ?_ (fun _ => ?_)
theorem spec_l12Has.mono : ∀ a0 a1 k, LeO (spec_l12Has.f k a0 a1) (spec_l12Has.f (k + 1) a0 a1) := by
  intro a0 a1 k
  have ih0 := spec_l12Has.mono_l k
  unfold spec_l12Has.f
  repeat' first
      | (with_reducible exact ih0 _ _ _)
      | (with_reducible exact LeO.refl _)
      | (with_reducible exact LeO.none _)
      | (with_reducible refine LeO.ite ?_ ?_)
      | (with_reducible refine LeO.bind ?_ (fun _ => ?_))
      | exact ih0 _ _ _
      | exact LeO.none _
      | refine LeO.ite ?_ ?_
      | refine LeO.bind ?_ (fun _ => ?_)
set_option maxHeartbeats 8000000 in
set_option maxRecDepth 100000 in
theorem spec_l12Has.calls (k : Nat) (A0 : Option Addr) (c0 : Nat) (l0 : List Int) (a1 : Int) (r : Bool) (w : World) (hr0 : Kd.C (Kd.int .i64) w A0 l0.length l0) (hc0 : l0.length ≤ c0) (h : spec_l12Has.f k l0 a1 = some r) :
  Calls Try.prog 101 #[.slice A0 l0.length c0, .int .i64 a1] w fun e w' => e = .returned (.bool r) ∧ Drawn0 w w' := by
 have HR0 := am_ hr0
 have HC0 := am_ hc0
 clear hr0 hc0
 have H : (spec_l12Has.l0 k l0 a1 0) = some r := h
 clear h
 have H' := am_ H
 clear H
 go_enter Try.func101, Try.ntmps101
 go_wp2
 go_loopg [5] k (fun kq v5 w' => ∃ (x5_1 : Int), v5 = .int .i64 x5_1 ∧ Aside0 (spec_l12Has.l0 kq l0 a1 x5_1 = some r) ∧ Aside0 (kq ≤ k) ∧ Drawn0 w w')
 case atStart => exact ⟨(0), z101_1, H', ⟨Nat.le_refl _⟩, z101_3⟩
 case round =>
  clear H'
  obtain ⟨x5_1, rfl, HA, HK1, ⟨m1, rfl⟩⟩ := hrel
  cases gk with
  | zero => exact absurd HA.out (by simp [spec_l12Has.l0])
  | succ k1 =>
   have H := HA.out
   clear HA
   simp only [spec_l12Has.l0] at H
   by_cases c3 : x5_1 < (l0.length : Int)
   ·rw [if_pos c3] at H
    have c3b0 : decide (x5_1 < (l0.length : Int)) = true := decide_eq_true c3
    clear c3
    by_cases c4 : 0 ≤ x5_1
    ·rw [if_pos c4] at H
     have c4b0 : decide (0 ≤ x5_1) = true := decide_eq_true c4
     clear c4
     by_cases c5 : (rd l0 x5_1) = a1
     ·rw [if_pos c5] at H
      have c5b0 : ((rd l0 x5_1) == a1) = true := beq_iff_eq.mpr c5
      have c5b1 : ((rd l0 x5_1) != a1) = false := bne_eq_false_iff_eq.mpr c5
      clear c5
      obtain rfl := Option.some.inj H
      have p972 : 0 ≤ (x5_1 : Int) := of_decide_eq_true z101_2
      have q972 : x5_1 < (l0.length : Int) := of_decide_eq_true z101_2
      obtain ⟨ad972, e972, hx972_0⟩ := Kd.at_int HR0.out x5_1 p972 q972
      cases e972
      replace p972 := eq_true p972
      replace q972 := eq_true q972
      go_wp2
      go_ret
      exact ⟨z101_1, z101_3⟩
     ·rw [if_neg c5] at H
      have c5b0 : ((rd l0 x5_1) == a1) = false := beq_eq_false_iff_ne.mpr c5
      have c5b1 : ((rd l0 x5_1) != a1) = true := bne_iff_ne.mpr c5
      have H' := am_ H
      clear H
      have p972 : 0 ≤ (x5_1 : Int) := of_decide_eq_true z101_2
      have q972 : x5_1 < (l0.length : Int) := of_decide_eq_true z101_2
      obtain ⟨ad972, e972, hx972_0⟩ := Kd.at_int HR0.out x5_1 p972 q972
      cases e972
      replace p972 := eq_true p972
      replace q972 := eq_true q972
      go_wp2
      go_roundg k1
      case measure => have := HK1.out; omega
      case rel => exact ⟨(wrap64 (x5_1 + 1)), z101_1, H', ⟨by have := HK1.out; omega⟩, z101_3⟩
    ·rw [if_neg c4] at H
     exact absurd H (by simp)
   ·rw [if_neg c3] at H
    have c3b0 : decide (x5_1 < (l0.length : Int)) = false := decide_eq_false c3
    clear c3
    obtain rfl := Option.some.inj H
    go_wp2
    go_ret
    exact ⟨z101_1, z101_3⟩

end Go.Proofs.Ytefkbmhkhpekjaa.PB

namespace Go.Proofs.Ytefkbmhkhpekjaa.PB
open Go.RowKit Go.Proofs.YtefkbmhkhpekjaaW.PrintWords Go.Proofs.YtefkbmhkhpekjaaW.PrintLast Go.Proofs.YtefkbmhkhpekjaaW.PrintMore
attribute [local go_sem] max2_int min2_int max_two min_two max_three min_three max_four min_four   -- for this text's walks alone
open Go.Proofs.YtefkbmhkhpekjaaMine
set_option linter.unusedVariables false
set_option linter.unusedSimpArgs false

theorem z50_1 {p : Prop} (h : p := by first | rfl | (simp; done) | (simp [*]; done)) : p := h
theorem z50_2 {p : Prop} (h : p := by first | (with_reducible assumption) | assumption) : p := h
theorem z50_3 {p : Prop} (h : p := by first | rfl | (simp [errW_none, errW_some] <;> rfl) | (simp [*, errW_none, errW_some] <;> rfl)) : p := h
theorem z50_4 {p : Prop} (h : p := by repeat (first | (with_reducible first | exact HB.out | apply below_alloc | apply pw_below_drewN | apply below_drew1) | exact HB.out)) : p := h
theorem z50_5 {p : Prop} (h : p := by repeat (first | (with_reducible first | exact HI1040.out | apply IsS116.alloc | apply IsS116.drewN | apply IsS116.drew | apply IsS116.set_1 | refine IsS116.far ?_ NB1040_1037.out _) | exact HI1040.out)) : p := h
theorem z50_6 {p : Prop} (h : p := by repeat (first | (with_reducible first | exact HB.out | apply below_alloc | apply pw_below_drewN | apply below_drew1 | refine below_set ?_ (IsS116.ge HI1040.out) | refine below_set ?_ GE1037.out) | exact HB.out)) : p := h
theorem z50_7 {p : Prop} (h : p := by repeat (first | (with_reducible first | exact HI1040.out | apply IsS116.alloc | apply IsS116.drewN | apply IsS116.drew | apply IsS116.set_1 | refine IsS116.far ?_ NB1040_1037.out _ | refine IsS116.far ?_ NB1040_1045.out _) | exact HI1040.out)) : p := h
theorem z50_8 {p : Prop} (h : p := by repeat (first | (with_reducible first | exact HB.out | apply below_alloc | apply pw_below_drewN | apply below_drew1 | refine below_set ?_ (IsS116.ge HI1040.out) | refine below_set ?_ GE1037.out | refine below_set ?_ GE1045.out) | exact HB.out)) : p := h
theorem z50_9 {p : Prop} (h : p := by (with_reducible repeat (first | refine blk_drewN ?_ _ | refine blk_drew ?_ | refine blk_alloc ?_ _)); refine blk_put (cs := #[.slice none 0 0]) ?_ 0 _ rfl; (with_reducible repeat (first | refine blk_drewN ?_ _ | refine blk_drew ?_ | refine blk_alloc ?_ _)); exact BK1037.out) : p := h
/-! ### spec_DrawTurnVals: function 50 -/
def spec_DrawTurnVals.l0 : Nat → List Int → Int → List Int → Int → List (List (S85)) → Option ((List (List (S85))) × List Int)
  | 0, _, _, _, _, _ => none
  | k + 1, x6, x7, x1041000, x1041001, x1046000 => if (x6.length : Int) ≤ 3 then ((spec_l6Rd_pick.f k x1041000 x1041001 3).bind fun bt1049 => (if x7 > 20 then ((spec_l12Has.f k x6 (wrap64 (1 + (Int.tmod x7 3)))).bind fun t1051 => (if t1051 = true then (spec_DrawTurnVals.l0 k x6 (wrap64 (x7 + 1)) x1041000 bt1049.2 x1046000) else (if x6.length < 17592186044416 then (spec_DrawTurnVals.l0 k (x6 ++ [wrap64 (1 + (Int.tmod x7 3))]) (wrap64 (x7 + 1)) x1041000 bt1049.2 x1046000) else (none)))) else ((spec_l12Has.f k x6 (wrap64 (1 + bt1049.1))).bind fun t1055 => (if t1055 = true then (spec_DrawTurnVals.l0 k x6 (wrap64 (x7 + 1)) x1041000 bt1049.2 x1046000) else (if x6.length < 17592186044416 then (spec_DrawTurnVals.l0 k (x6 ++ [wrap64 (1 + bt1049.1)]) (wrap64 (x7 + 1)) x1041000 bt1049.2 x1046000) else (none)))))) else ((spec_l6Rd_pick.f k x1041000 x1041001 16).bind fun bt1059 => (if bt1059.1 = 0 then ((spec_l6Rd_pick.f k x1041000 bt1059.2 (x6.length : Int)).bind fun bt1061 => ((spec_l6Rd_pick.f k x1041000 bt1061.2 4).bind fun bt1063 => (if 0 ≤ bt1061.1 then (if bt1061.1 < (x6.length : Int) then (some (x1046000, (x6.set (bt1061.1 : Int).toNat bt1063.1))) else (none)) else (none)))) else (some (x1046000, x6))))
def spec_DrawTurnVals.f (k : Nat) (l0 : List Int) : Option ((List (List (S85))) × List Int) := (spec_l6Open.f l0).bind fun bt1038 => ((spec_l71Any.f k bt1038.1 bt1038.2).bind fun bt1041 => (spec_DrawTurnVals.l0 k (([0] : List Int)) 0 bt1038.1 bt1041.2 bt1041.1))
theorem spec_DrawTurnVals.mono_l : ∀ k, (∀ y0 y1 y2 y3 y4, LeO (spec_DrawTurnVals.l0 k y0 y1 y2 y3 y4) (spec_DrawTurnVals.l0 (k + 1) y0 y1 y2 y3 y4))
  | 0 => fun _ _ _ _ _ r h => by simp [spec_DrawTurnVals.l0] at h
  | k + 1 => by
    have ih0 := spec_DrawTurnVals.mono_l k
    · intro y0 y1 y2 y3 y4
      unfold spec_DrawTurnVals.l0
      repeat' first
      | (with_reducible exact ih0 _ _ _ _ _)
      | (with_reducible exact spec_l12Has.mono _ _ _)
      | (with_reducible exact spec_l6Rd_pick.mono _ _ _ _)
      | (with_reducible exact spec_l71Any.mono _ _ _)
      | (with_reducible exact LeO.refl _)
      | (with_reducible exact LeO.none _)
      | (with_reducible refine LeO.ite ?_ ?_)
      | (with_reducible refine LeO.bind ?_ (fun _ => ?_))
      | exact ih0 _ _ _ _ _
      | exact spec_l12Has.mono _ _ _
      | exact spec_l6Rd_pick.mono _ _ _ _
      | exact spec_l71Any.mono _ _ _
      | exact LeO.none _
      | refine LeO.ite ?_ ?_
      | refine LeO.bind ?_ (fun _ => ?_)
theorem spec_DrawTurnVals.mono : ∀ a0 k, LeO (spec_DrawTurnVals.f k a0) (spec_DrawTurnVals.f (k + 1) a0) := by
  intro a0 k
  have ih0 := spec_DrawTurnVals.mono_l k
  unfold spec_DrawTurnVals.f
  repeat' first
      | (with_reducible exact ih0 _ _ _ _ _)
      | (with_reducible exact spec_l12Has.mono _ _ _)
      | (with_reducible exact spec_l6Rd_pick.mono _ _ _ _)
      | (with_reducible exact spec_l71Any.mono _ _ _)
      | (with_reducible exact LeO.refl _)
      | (with_reducible exact LeO.none _)
      | (with_reducible refine LeO.ite ?_ ?_)
      | (with_reducible refine LeO.bind ?_ (fun _ => ?_))
      | exact ih0 _ _ _ _ _
      | exact spec_l12Has.mono _ _ _
      | exact spec_l6Rd_pick.mono _ _ _ _
      | exact spec_l71Any.mono _ _ _
      | exact LeO.none _
      | refine LeO.ite ?_ ?_
      | refine LeO.bind ?_ (fun _ => ?_)
set_option maxHeartbeats 8000000 in
set_option maxRecDepth 100000 in
theorem spec_DrawTurnVals.calls (k : Nat) (A0 : Option Addr) (c0 : Nat) (l0 : List Int) (r1 : List (List (S85))) (r2 : List Int) (w : World) (hr0 : Kd.C (Kd.int .u8) w A0 l0.length l0) (hc0 : l0.length ≤ c0) (h : spec_DrawTurnVals.f k l0 = some (r1, r2)) :
  Calls Try.prog 50 #[.slice A0 l0.length c0] w fun e w' => ∃ v0_ v1_ : Value, e = .returned (.tuple #[.agg #[v0_], v1_]) ∧ Kd.N (Kd.slice 85 k85) 82 w' w.heap.size (fun k_ => (w.heap.size ≤ k_) ∧ some k_ ≠ (v1_ : Value).ownBlock) v0_ r1 ∧ Kd.R (Kd.int .i64) 3 w' w.heap.size (fun k_ => (w.heap.size ≤ k_)) v1_ r2 ∧ Below w.heap.size w w' := by
 have hu35 := Try.underlying35
 have HR0 := am_ hr0
 have HC0 := am_ hc0
 clear hr0 hc0
 have HB := am_ (Below.refl w.heap.size w)
 have H : ((spec_l6Open.f l0).bind fun bt1038 => ((spec_l71Any.f k bt1038.1 bt1038.2).bind fun bt1041 => (spec_DrawTurnVals.l0 k (([0] : List Int)) 0 bt1038.1 bt1041.2 bt1041.1))) = some (r1, r2) := h
 clear h
 replace H := Option.bind_eq_some_iff.mp H
 obtain ⟨⟨t1038, t1039⟩, A20, H⟩ := H
 replace H : ((spec_l71Any.f k t1038 t1039).bind fun bt1041 => (spec_DrawTurnVals.l0 k (([0] : List Int)) 0 t1038 bt1041.2 bt1041.1)) = some (r1, r2) := H
 have A2 := am_ A20
 clear A20
 replace H := Option.bind_eq_some_iff.mp H
 obtain ⟨⟨t1041, t1044⟩, A30, H⟩ := H
 replace H : (spec_DrawTurnVals.l0 k (([0] : List Int)) 0 t1038 t1044 t1041) = some (r1, r2) := H
 have A3 := am_ A30
 clear A30
 obtain ⟨y1046, hy1046⟩ : ∃ y_ : List Int, y_ = (([0] : List Int)) := ⟨_, rfl⟩
 replace H : (spec_DrawTurnVals.l0 k y1046 0 t1038 t1044 t1041) = some (r1, r2) := by first | (rw [hy1046]; with_reducible exact H) | (have H2_ := (Option.bind_some _ _).symm.trans H; rw [hy1046]; with_reducible exact H2_) | (have H2_ := (Option.bind_some _ _).symm.trans H; with_reducible exact H2_) | with_reducible exact H | (rw [hy1046]; exact H) | exact H
 have Ny1046 := am_ hy1046
 clear hy1046
 have H' := am_ H
 clear H
 go_enter Try.func50, Try.ntmps50
 go_wp2_with (first | ((with_reducible refine gate_dst (N := 2) rfl ?_); refine box_event ?hg (N := 2) ?hd (cs := #[.slice none 0 0]) (t := 35) ?hr ?_; (case hd => rfl); (case hg => rfl); (case hr => first | (go_simp; done) | (go_simp; rfl)); intro gb1037 hg w4 hbox hb; have n0_ := am_ (below_step z50_4 hb); have n1_ := am_ (hbox); have n2_ := am_ (by rw [hg]; exact (below_size z50_4) : w.heap.size ≤ gb1037); have n3_ := am_ (by rw [hg]; exact (below_size z50_4) : w.heap.size ≤ gb1037); clear HB; have HB := n0_; have BK1037 := n1_; have GW1037 := n2_; have GE1037 := n3_; clear n0_ n1_ n2_ n3_; clear hb hbox hg) | ((with_reducible refine gate_callee (f := 70) rfl ?_); refine goesL_ (some 10) rfl rfl Try.func70 (by kernel_rfl) rfl #[.slice A0 l0.length c0] rfl (by (try simp only [List.map_toArray, List.map_cons, List.map_nil]); first | done | rfl | (simp only [List.length_drop, List.length_take]; rfl)) ?_; (with_reducible refine (spec_l6Open.calls _ _ l0 t1038 t1039 w _ ?side1 ?side2 ?side3 A2.out).mono ?_); (case side1 => repeat (first | (with_reducible first | exact HB.out | apply below_alloc | apply pw_below_drewN | apply below_drew1 | refine below_set ?_ GE1037.out) | exact HB.out)); (case side2 => exact HR0.out); (case side3 => exact HC0.out); rintro e w5 ⟨g1040, rfl, hi, hb, hb2⟩; refine ⟨_, rfl, ?_⟩; have n0_ := am_ (blk_below (bu BK1037.out) hb2); have n1_ := am_ (hb); have n2_ := am_ (hi); have n3_ := am_ (IsS116.ne_blk hi (blk_below (bu BK1037.out) hb2) (by decide)); have n4_ := am_ (Ne.symm (IsS116.ne_blk hi (blk_below (bu BK1037.out) hb2) (by decide))); clear BK1037 HB; have BK1037 := n0_; have HB := n1_; have HI1040 := n2_; have NB1040_1037 := n3_; have NB1037_1040 := n4_; clear n0_ n1_ n2_ n3_ n4_; (try clear hb); (try clear hb2); (try clear hk); (try clear hi)) | ((with_reducible refine gate_callee (f := 92) rfl ?_); refine goesL_ (some 12) rfl rfl Try.func92 (by kernel_rfl) rfl #[.pointer (some ⟨g1040, 0, none⟩)] rfl (by (try simp only [List.map_toArray, List.map_cons, List.map_nil]); first | done | rfl | (simp only [List.length_drop, List.length_take]; rfl)) ?_; (with_reducible refine (spec_l71Any.calls k g1040 t1038 t1039 t1041 t1044 w _ ?side1 ?side2 A3.out).mono ?_); (case side1 => repeat (first | (with_reducible first | exact HI1040.out | apply IsS116.alloc | apply IsS116.drewN | apply IsS116.drew | apply IsS116.set_1 | refine IsS116.far ?_ NB1040_1037.out _) | exact HI1040.out)); (case side2 => repeat (first | (with_reducible first | exact HB.out | apply below_alloc | apply pw_below_drewN | apply below_drew1 | refine below_set ?_ (IsS116.ge HI1040.out) | refine below_set ?_ GE1037.out) | exact HB.out)); rintro e w6 ⟨v1042, rfl, ho0, hi, hb, hk⟩; refine ⟨_, rfl, ?_⟩; have n0_ := am_ (KeepBut.blk hk (bu BK1037.out) NB1037_1040.out (by simp)); have n1_ := am_ (Kd.N_lower (Kd.N_mono (ok' := fun k_ => (w.heap.size ≤ k_) ∧ k_ ≠ gb1037 ∧ k_ ≠ g1040) ho0 (fun k_ hk_ => ⟨(Nat.le_trans (below_size z50_6) hk_), (Kd.freshB (bu BK1037.out) k_ hk_), (IsS116.fresh z50_5 k_ hk_)⟩)) (below_size z50_6)); have n2_ := am_ (hb); have n3_ := am_ (hi); clear BK1037 HB HI1040; have BK1037 := n0_; have HO1043 := n1_; have HB := n2_; have HI1040 := n3_; clear n0_ n1_ n2_ n3_; (try clear hb); (try clear hb2); (try clear hk); (try clear hi); (try clear ho0)) | ((with_reducible refine gate_dst (N := 5) rfl ?_); refine box_event ?hg (N := 5) ?hd (cs := #[.slice none 0 0]) (t := 35) ?hr ?_; (case hd => rfl); (case hg => rfl); (case hr => first | (go_simp; done) | (go_simp; rfl)); intro gb1045 hg w7 hbox hb; have n0_ := am_ (Kd.N_below (Kd.N_elderB (nu HO1043.out) gb1045 (Nat.le_of_eq hg.symm)) hb); have n1_ := am_ (blk_below (bu BK1037.out) hb); have n2_ := am_ (IsS116.below z50_5 hb); have n3_ := am_ (below_step z50_6 hb); have n4_ := am_ (hbox); have n5_ := am_ (by rw [hg]; exact (below_size z50_6) : w.heap.size ≤ gb1045); have n6_ := am_ (by rw [hg]; exact (below_size z50_6) : w.heap.size ≤ gb1045); have n7_ := am_ (by rw [hg]; exact Nat.ne_of_lt (blk_lt (bu BK1037.out)) : gb1037 ≠ gb1045); have n8_ := am_ (by rw [hg]; exact Nat.ne_of_gt (blk_lt (bu BK1037.out)) : gb1045 ≠ gb1037); have n9_ := am_ (by rw [hg]; exact Nat.ne_of_lt (IsS116.lt (show IsS116 w _ g1040 t1038 t1044 from by repeat (first | (with_reducible first | exact HI1040.out | apply IsS116.alloc | apply IsS116.drewN | apply IsS116.drew | apply IsS116.set_1 | refine IsS116.far ?_ NB1040_1037.out _) | exact HI1040.out))) : g1040 ≠ gb1045); have n10_ := am_ (by rw [hg]; exact Nat.ne_of_gt (IsS116.lt (show IsS116 w _ g1040 t1038 t1044 from by repeat (first | (with_reducible first | exact HI1040.out | apply IsS116.alloc | apply IsS116.drewN | apply IsS116.drew | apply IsS116.set_1 | refine IsS116.far ?_ NB1040_1037.out _) | exact HI1040.out))) : gb1045 ≠ g1040); clear HO1043 BK1037 HI1040 HB; have HO1043 := n0_; have BK1037 := n1_; have HI1040 := n2_; have HB := n3_; have BK1045 := n4_; have GW1045 := n5_; have GE1045 := n6_; have NB1037_1045 := n7_; have NB1045_1037 := n8_; have NB1040_1045 := n9_; have NB1045_1040 := n10_; clear n0_ n1_ n2_ n3_ n4_ n5_ n6_ n7_ n8_ n9_ n10_; clear hb hbox hg; obtain ⟨Ao8, co8, eo8⟩ := Kd.N_slice HO1043.out; subst eo8; have hnb9 := NB1045_1037.out; have hnc9 := NB1037_1045.out; have hnb10 := NB1045_1040.out; have hnc10 := NB1040_1045.out; have hcz11_0 : w7.cell? ⟨gb1045, 0, none⟩ = some (.slice none 0 0) := (blk_cell BK1045.out 0).trans rfl; have hfz11_0 := blk_frozen BK1045.out 0) | ((with_reducible refine gate_dst (N := 13) rfl ?_); refine Kd.R_lit (Kd.int .i64) _ 3 ?hg (N := 13) ?hd (xs := ([0] : List Int)) (inner := [.int .i64 0]) (ok := fun _ => True) (okp := fun _ => True) ?hr ?hp (fun _ hk => hk) trivial (Below.refl _ _) (Nat.le_refl _) (by simp) ?_; (case hd => rfl); (case hg => rfl); (case hr => first | (go_simp; done) | (go_simp; rfl)); (case hp => exact (Reps.one (show Kd.M (Kd.int .i64) _ _ _ 0 [.int .i64 0] from rfl) (Reps.none _ _))); intro v1047 w12 ho13 hb hg_ hnew_; clear hg_ hnew_; (first | rw [← Ny1046.out] at ho13 | (simp only [Int.reduceToNat] at ho13; rw [← Ny1046.out] at ho13)); have n0_ := am_ (Kd.N_elder' (nu (Kd.N_mono (Kd.N_far (p := ⟨gb1045, 0, none⟩) (Kd.N_mono HO1043.out (fun k_ hk => (⟨hk, hk.2⟩ : _ ∧ k_ ≠ gb1045))) (fun _ hk => hk.2) (.slice Ao8 t1041.length co8)) (fun _ h_ => h_.1))) (Kd.R_base ho13) hb); have n1_ := am_ (Kd.R_lower (Kd.R_newM (M := fun k_ => (w.heap.size ≤ k_)) ho13 (below_size z50_8) (fun k_ h_ => h_)) (below_size z50_8)); have n2_ := am_ (blk_below (g := gb1037) (o := .cells #[.slice none 0 0] 35 (0, 0)) (by (with_reducible repeat (first | refine blk_drewN ?_ _ | refine blk_drew ?_ | refine blk_alloc ?_ _)); refine blk_far ?_ NB1037_1045.out _; (with_reducible repeat (first | refine blk_drewN ?_ _ | refine blk_drew ?_ | refine blk_alloc ?_ _)); exact BK1037.out) hb); have n3_ := am_ (IsS116.below (show IsS116 w (w7.setCell ⟨gb1045, 0, none⟩ (.slice Ao8 t1041.length co8)) g1040 t1038 t1044 from by repeat (first | (with_reducible first | exact HI1040.out | apply IsS116.alloc | apply IsS116.drewN | apply IsS116.drew | apply IsS116.set_1 | refine IsS116.far ?_ NB1040_1037.out _ | refine IsS116.far ?_ NB1040_1045.out _) | exact HI1040.out)) hb); have n4_ := am_ (blk_below (g := gb1045) (o := .cells #[.slice Ao8 t1041.length co8] 35 (0, 0)) (by (with_reducible repeat (first | refine blk_drewN ?_ _ | refine blk_drew ?_ | refine blk_alloc ?_ _)); refine blk_put (cs := #[.slice none 0 0]) ?_ 0 _ rfl; (with_reducible repeat (first | refine blk_drewN ?_ _ | refine blk_drew ?_ | refine blk_alloc ?_ _)); exact BK1045.out) hb); have n5_ := am_ (below_step z50_8 hb); clear HO1043 BK1037 HI1040 BK1045 HB; have HO1043 := n0_; have HO1048 := n1_; have BK1037 := n2_; have HI1040 := n3_; have BK1045 := n4_; have HB := n5_; clear n0_ n1_ n2_ n3_ n4_ n5_; clear hb ho13))
 go_loopg [6, 7] k (fun kq v6 v7 w' => ∃ (x6_1 : List Int) (x7_1 : Int) (x1041001_1 : Int), v7 = .int .i64 x7_1 ∧ Aside0 (spec_DrawTurnVals.l0 kq x6_1 x7_1 t1038 x1041001_1 t1041 = some (r1, r2)) ∧ Aside0 (kq ≤ k) ∧ Aside0 (Kd.R (Kd.int .i64) 3 w' w.heap.size (fun k_ => (w.heap.size ≤ k_)) v6 x6_1) ∧ Aside0 (Kd.N (Kd.slice 85 k85) 82 w' w.heap.size (fun k_ => (w.heap.size ≤ k_) ∧ some k_ ≠ (v6 : Value).ownBlock ∧ k_ ≠ gb1037 ∧ k_ ≠ gb1045 ∧ k_ ≠ g1040) (.slice Ao8 t1041.length co8) t1041) ∧ Aside0 (w'.heap[gb1037]? = some (.cells #[(.slice none 0 0)] 35 (0, 0))) ∧ Aside0 (w'.heap[gb1045]? = some (.cells #[(.slice Ao8 t1041.length co8)] 35 (0, 0))) ∧ Aside0 (IsS116 w w' g1040 t1038 x1041001_1) ∧ Aside0 (Below w.heap.size w w'))
 case atStart => exact ⟨(y1046), (0), (t1044), z50_1, H', ⟨Nat.le_refl _⟩, ⟨ru (Kd.R_mono HO1048.out (fun _ hk => hk.1))⟩, ⟨nu (Kd.N_mono HO1043.out (fun _ hk => ⟨hk.1.1.1, ⟨hk.2, ⟨hk.1.1.2.1, ⟨hk.1.2, hk.1.1.2.2⟩⟩⟩⟩))⟩, ⟨bu BK1037.out⟩, ⟨bu BK1045.out⟩, ⟨z50_7⟩, ⟨z50_8⟩⟩
 case round =>
  clear H'
  obtain ⟨x6_1, x7_1, x1041001_1, rfl, HA, HK1, HO_6, HO_1046000, BK1037, BK1045, HI1040, HB⟩ := hrel
  cases gk with
  | zero => exact absurd HA.out (by simp [spec_DrawTurnVals.l0])
  | succ k1 =>
   have H := HA.out
   clear HA
   simp only [spec_DrawTurnVals.l0] at H
   by_cases c14 : (x6_1.length : Int) ≤ 3
   ·rw [if_pos c14] at H
    have c14b0 : decide ((x6_1.length : Int) ≤ 3) = true := decide_eq_true c14
    have c14b1 : decide (x6_1.length ≤ 3) = true := decide_eq_true (by omega)
    clear c14
    replace H := Option.bind_eq_some_iff.mp H
    obtain ⟨⟨t1049, t1050⟩, A150, H⟩ := H
    replace H : (if x7_1 > 20 then ((spec_l12Has.f k1 x6_1 (wrap64 (1 + (Int.tmod x7_1 3)))).bind fun t1051 => (if t1051 = true then (spec_DrawTurnVals.l0 k1 x6_1 (wrap64 (x7_1 + 1)) t1038 t1050 t1041) else (if x6_1.length < 17592186044416 then (spec_DrawTurnVals.l0 k1 (x6_1 ++ [wrap64 (1 + (Int.tmod x7_1 3))]) (wrap64 (x7_1 + 1)) t1038 t1050 t1041) else (none)))) else ((spec_l12Has.f k1 x6_1 (wrap64 (1 + t1049))).bind fun t1055 => (if t1055 = true then (spec_DrawTurnVals.l0 k1 x6_1 (wrap64 (x7_1 + 1)) t1038 t1050 t1041) else (if x6_1.length < 17592186044416 then (spec_DrawTurnVals.l0 k1 (x6_1 ++ [wrap64 (1 + t1049)]) (wrap64 (x7_1 + 1)) t1038 t1050 t1041) else (none))))) = some (r1, r2) := H
    have A15 := am_ A150
    clear A150
    by_cases c16 : x7_1 > 20
    ·rw [if_pos c16] at H
     have c16b0 : decide (20 < x7_1) = true := decide_eq_true c16
     clear c16
     replace H := Option.bind_eq_some_iff.mp H
     obtain ⟨t1051, A170, H⟩ := H
     replace H : (if t1051 = true then (spec_DrawTurnVals.l0 k1 x6_1 (wrap64 (x7_1 + 1)) t1038 t1050 t1041) else (if x6_1.length < 17592186044416 then (spec_DrawTurnVals.l0 k1 (x6_1 ++ [wrap64 (1 + (Int.tmod x7_1 3))]) (wrap64 (x7_1 + 1)) t1038 t1050 t1041) else (none))) = some (r1, r2) := H
     have A17 := am_ A170
     clear A170
     by_cases c18 : t1051 = true
     ·subst c18
      have H1 : (spec_DrawTurnVals.l0 k1 x6_1 (wrap64 (x7_1 + 1)) t1038 t1050 t1041) = some (r1, r2) := by rw [if_pos rfl] at H; exact H
      clear H
      have H := H1
      clear H1
      have H' := am_ H
      clear H
      obtain ⟨Ao19, co19, eo19⟩ := Kd.R_slice HO_6.out
      subst eo19
      go_wp2_with (first | ((with_reducible refine gate_callee (f := 71) rfl ?_); refine goesL_ (some 20) rfl rfl Try.func71 (by kernel_rfl) rfl #[.pointer (some ⟨g1040, 0, none⟩), .int .i64 3] rfl (by (try simp only [List.map_toArray, List.map_cons, List.map_nil]); first | done | rfl | (simp only [List.length_drop, List.length_take]; rfl)) ?_; (with_reducible refine (spec_l6Rd_pick.calls k1 g1040 t1038 x1041001_1 3 t1049 t1050 w _ ?side1 ?side2 A15.out).mono ?_); (case side1 => repeat (first | (with_reducible first | exact HI1040.out | apply IsS116.alloc | apply IsS116.drewN | apply IsS116.drew | apply IsS116.set_1 | refine IsS116.far ?_ NB1040_1037.out _ | refine IsS116.far ?_ NB1040_1045.out _) | exact HI1040.out)); (case side2 => repeat (first | (with_reducible first | exact HB.out | apply below_alloc | apply pw_below_drewN | apply below_drew1 | refine below_set ?_ (IsS116.ge HI1040.out) | refine below_set ?_ GE1037.out | refine below_set ?_ GE1045.out) | exact HB.out)); rintro e w20 ⟨rfl, hi, hb, hk⟩; refine ⟨_, rfl, ?_⟩; have n0_ := am_ (Kd.R_mono (Kd.R_keep (IsS116.apart (show IsS116 w _ g1040 t1038 x1041001_1 from by repeat (first | (with_reducible first | exact HI1040.out | apply IsS116.alloc | apply IsS116.drewN | apply IsS116.drew | apply IsS116.set_1 | refine IsS116.far ?_ NB1040_1037.out _ | refine IsS116.far ?_ NB1040_1045.out _) | exact HI1040.out)) (ru HO_6.out) (by decide)) hk (fun _ h => h.2)) (fun _ h => h.1)); have n1_ := am_ (Kd.N_mono (Kd.N_keep (Kd.N_mono (ok := fun k_ => (((w.heap.size ≤ k_)) ∧ (some k_ ≠ (.slice Ao19 x6_1.length co19 : Value).ownBlock ∧ (k_ ≠ gb1037 ∧ (k_ ≠ gb1045 ∧ k_ ≠ g1040))))) (nu HO_1046000.out) (fun k_ hk_ => (⟨hk_, hk_.2.2.2.2⟩ : _ ∧ k_ ≠ g1040))) hk (fun _ h => h.2)) (fun _ h => h.1)); have n2_ := am_ (KeepBut.blk hk (bu BK1037.out) NB1037_1040.out (by simp)); have n3_ := am_ (KeepBut.blk hk (bu BK1045.out) NB1045_1040.out (by simp)); have n4_ := am_ (hb); have n5_ := am_ (hi); clear HO_6 HO_1046000 BK1037 BK1045 HB HI1040; have HO_6 := n0_; have HO_1046000 := n1_; have BK1037 := n2_; have BK1045 := n3_; have HB := n4_; have HI1040 := n5_; clear n0_ n1_ n2_ n3_ n4_ n5_; (try clear hb); (try clear hb2); (try clear hk); (try clear hi)) | ((with_reducible refine gate_callee (f := 101) rfl ?_); refine goesL_ (some 29) rfl rfl Try.func101 (by kernel_rfl) rfl #[.slice Ao19 x6_1.length co19, .int .i64 (wrap64 (1 + (Int.tmod x7_1 3)))] rfl (by (try simp only [List.map_toArray, List.map_cons, List.map_nil]); first | done | rfl | (simp only [List.length_drop, List.length_take]; rfl)) ?_; (with_reducible refine (spec_l12Has.calls k1 _ _ x6_1 (wrap64 (1 + (Int.tmod x7_1 3))) true _ ?side1 ?side2 A17.out).mono ?_); (case side1 => repeat (first | exact (Kd.R_reads' HO_6.out).2.2 | (with_reducible refine Kd.C_alloc ?_ _) | (with_reducible refine Kd.C_drewN ?_ _) | (with_reducible refine Kd.C_drew ?_))); (case side2 => exact (Kd.R_reads' HO_6.out).2.1); rintro e w' ⟨rfl, ⟨nd, rfl⟩⟩; refine ⟨_, rfl, ?_⟩))
      go_roundg k1
      case measure => have := HK1.out; omega
      case rel => exact ⟨(x6_1), (wrap64 (x7_1 + 1)), (t1050), z50_1, H', ⟨by have := HK1.out; omega⟩, ⟨ru HO_6.out⟩, ⟨nu HO_1046000.out⟩, ⟨bu BK1037.out⟩, ⟨bu BK1045.out⟩, ⟨z50_7⟩, ⟨z50_8⟩⟩
     ·replace c18 := Bool.eq_false_iff.mpr c18
      subst c18
      have H1 : (if x6_1.length < 17592186044416 then (spec_DrawTurnVals.l0 k1 (x6_1 ++ [wrap64 (1 + (Int.tmod x7_1 3))]) (wrap64 (x7_1 + 1)) t1038 t1050 t1041) else (none)) = some (r1, r2) := by rw [if_neg (show ¬ (false = true) by decide)] at H; exact H
      clear H
      have H := H1
      clear H1
      by_cases c21 : x6_1.length < 17592186044416
      ·rw [if_pos c21] at H
       have LMc21 := am_ c21
       clear c21
       obtain ⟨y1052, hy1052⟩ : ∃ y_ : List Int, y_ = (x6_1 ++ [wrap64 (1 + (Int.tmod x7_1 3))]) := ⟨_, rfl⟩
       replace H : (spec_DrawTurnVals.l0 k1 y1052 (wrap64 (x7_1 + 1)) t1038 t1050 t1041) = some (r1, r2) := by first | (rw [hy1052]; with_reducible exact H) | (have H2_ := (Option.bind_some _ _).symm.trans H; rw [hy1052]; with_reducible exact H2_) | (have H2_ := (Option.bind_some _ _).symm.trans H; with_reducible exact H2_) | with_reducible exact H | (rw [hy1052]; exact H) | exact H
       have Ny1052 := am_ hy1052
       clear hy1052
       have H' := am_ H
       clear H
       obtain ⟨Ao22, co22, eo22⟩ := Kd.R_slice HO_6.out
       subst eo22
       go_wp2_with (first | ((with_reducible refine gate_callee (f := 71) rfl ?_); refine goesL_ (some 20) rfl rfl Try.func71 (by kernel_rfl) rfl #[.pointer (some ⟨g1040, 0, none⟩), .int .i64 3] rfl (by (try simp only [List.map_toArray, List.map_cons, List.map_nil]); first | done | rfl | (simp only [List.length_drop, List.length_take]; rfl)) ?_; (with_reducible refine (spec_l6Rd_pick.calls k1 g1040 t1038 x1041001_1 3 t1049 t1050 w _ ?side1 ?side2 A15.out).mono ?_); (case side1 => repeat (first | (with_reducible first | exact HI1040.out | apply IsS116.alloc | apply IsS116.drewN | apply IsS116.drew | apply IsS116.set_1 | refine IsS116.far ?_ NB1040_1037.out _ | refine IsS116.far ?_ NB1040_1045.out _) | exact HI1040.out)); (case side2 => repeat (first | (with_reducible first | exact HB.out | apply below_alloc | apply pw_below_drewN | apply below_drew1 | refine below_set ?_ (IsS116.ge HI1040.out) | refine below_set ?_ GE1037.out | refine below_set ?_ GE1045.out) | exact HB.out)); rintro e w23 ⟨rfl, hi, hb, hk⟩; refine ⟨_, rfl, ?_⟩; have n0_ := am_ (Kd.R_mono (Kd.R_keep (IsS116.apart (show IsS116 w _ g1040 t1038 x1041001_1 from by repeat (first | (with_reducible first | exact HI1040.out | apply IsS116.alloc | apply IsS116.drewN | apply IsS116.drew | apply IsS116.set_1 | refine IsS116.far ?_ NB1040_1037.out _ | refine IsS116.far ?_ NB1040_1045.out _) | exact HI1040.out)) (ru HO_6.out) (by decide)) hk (fun _ h => h.2)) (fun _ h => h.1)); have n1_ := am_ (Kd.N_mono (Kd.N_keep (Kd.N_mono (ok := fun k_ => (((w.heap.size ≤ k_)) ∧ (some k_ ≠ (.slice Ao22 x6_1.length co22 : Value).ownBlock ∧ (k_ ≠ gb1037 ∧ (k_ ≠ gb1045 ∧ k_ ≠ g1040))))) (nu HO_1046000.out) (fun k_ hk_ => (⟨hk_, hk_.2.2.2.2⟩ : _ ∧ k_ ≠ g1040))) hk (fun _ h => h.2)) (fun _ h => h.1)); have n2_ := am_ (KeepBut.blk hk (bu BK1037.out) NB1037_1040.out (by simp)); have n3_ := am_ (KeepBut.blk hk (bu BK1045.out) NB1045_1040.out (by simp)); have n4_ := am_ (hb); have n5_ := am_ (hi); clear HO_6 HO_1046000 BK1037 BK1045 HB HI1040; have HO_6 := n0_; have HO_1046000 := n1_; have BK1037 := n2_; have BK1045 := n3_; have HB := n4_; have HI1040 := n5_; clear n0_ n1_ n2_ n3_ n4_ n5_; (try clear hb); (try clear hb2); (try clear hk); (try clear hi)) | ((with_reducible refine gate_callee (f := 101) rfl ?_); refine goesL_ (some 29) rfl rfl Try.func101 (by kernel_rfl) rfl #[.slice Ao22 x6_1.length co22, .int .i64 (wrap64 (1 + (Int.tmod x7_1 3)))] rfl (by (try simp only [List.map_toArray, List.map_cons, List.map_nil]); first | done | rfl | (simp only [List.length_drop, List.length_take]; rfl)) ?_; (with_reducible refine (spec_l12Has.calls k1 _ _ x6_1 (wrap64 (1 + (Int.tmod x7_1 3))) false _ ?side1 ?side2 A17.out).mono ?_); (case side1 => repeat (first | exact (Kd.R_reads' HO_6.out).2.2 | (with_reducible refine Kd.C_alloc ?_ _) | (with_reducible refine Kd.C_drewN ?_ _) | (with_reducible refine Kd.C_drew ?_))); (case side2 => exact (Kd.R_reads' HO_6.out).2.1); rintro e w' ⟨rfl, ⟨nd, rfl⟩⟩; refine ⟨_, rfl, ?_⟩) | ((with_reducible refine gate_builtin (b := .append) (xs := #[.tmp 31, .tmp 33]) rfl ?_); at_builtin; refine Kd.R_append (Kd.int .i64) (w0 := w) w.heap.size rfl (.tmp 31) (.tmp 33) 22 3 (.int .i64 0) 8 rfl Try.underlying22 info3 rfl (by decide) (by omega) (.slice Ao22 x6_1.length co22) x6_1 (wrap64 (1 + (Int.tmod x7_1 3))) [.int .i64 (wrap64 (1 + (Int.tmod x7_1 3)))] (fun k_ => (w.heap.size ≤ k_)) (fun _ => False) rfl rfl ?aP (fun _ hk => hk.elim) ?aF ?aO ?aB ?aS ?aL ?_; (case aP => exact rfl); (case aB => exact z50_8); (case aF => exact (fun k_ hk => (Nat.le_trans (below_size z50_8) hk))); (case aO => exact (ru HO_6.out)); (case aS => exact (below_size z50_8)); (case aL => have := LMc21.out; omega); intro v1053 w24 ho hb hg hat; rw [← Ny1052.out] at ho; have n0_ := am_ (Kd.N_afterv (ok := (fun k_ => (w.heap.size ≤ k_) ∧ k_ ≠ gb1037 ∧ k_ ≠ gb1045 ∧ k_ ≠ g1040)) (nu (Kd.N_mono HO_1046000.out (fun _ hk => ⟨⟨hk.1, ⟨hk.2.2.1, ⟨hk.2.2.2.1, hk.2.2.2.2⟩⟩⟩, hk.2.1⟩))) hg hat); have n1_ := am_ (blk_grown (bu BK1037.out) hg (Kd.R_ne HO_6.out BK1037.out (by decide))); have n2_ := am_ (blk_grown (bu BK1045.out) hg (Kd.R_ne HO_6.out BK1045.out (by decide))); have n3_ := am_ (IsS116.grown z50_7 hg (IsS116.own_ne HI1040.out HO_6.out (by decide))); have n4_ := am_ (hb); have n5_ := am_ (ho); clear HO_1046000 BK1037 BK1045 HI1040 HB HO_6; have HO_1046000 := n0_; have BK1037 := n1_; have BK1045 := n2_; have HI1040 := n3_; have HB := n4_; have HO1054 := n5_; clear n0_ n1_ n2_ n3_ n4_ n5_; clear ho hb hg hat))
       go_roundg k1
       case measure => have := HK1.out; omega
       case rel => exact ⟨(y1052), (wrap64 (x7_1 + 1)), (t1050), z50_1, H', ⟨by have := HK1.out; omega⟩, ⟨ru HO1054.out⟩, ⟨nu (Kd.N_mono HO_1046000.out (fun _ hk => ⟨hk.1.1, ⟨hk.2, ⟨hk.1.2.1, ⟨hk.1.2.2.1, hk.1.2.2.2⟩⟩⟩⟩))⟩, ⟨bu BK1037.out⟩, ⟨bu BK1045.out⟩, ⟨z50_7⟩, ⟨z50_8⟩⟩
      ·rw [if_neg c21] at H
       exact absurd H (by simp)
    ·rw [if_neg c16] at H
     have c16b0 : decide (20 < x7_1) = false := decide_eq_false c16
     clear c16
     replace H := Option.bind_eq_some_iff.mp H
     obtain ⟨t1055, A250, H⟩ := H
     replace H : (if t1055 = true then (spec_DrawTurnVals.l0 k1 x6_1 (wrap64 (x7_1 + 1)) t1038 t1050 t1041) else (if x6_1.length < 17592186044416 then (spec_DrawTurnVals.l0 k1 (x6_1 ++ [wrap64 (1 + t1049)]) (wrap64 (x7_1 + 1)) t1038 t1050 t1041) else (none))) = some (r1, r2) := H
     have A25 := am_ A250
     clear A250
     by_cases c26 : t1055 = true
     ·subst c26
      have H1 : (spec_DrawTurnVals.l0 k1 x6_1 (wrap64 (x7_1 + 1)) t1038 t1050 t1041) = some (r1, r2) := by rw [if_pos rfl] at H; exact H
      clear H
      have H := H1
      clear H1
      have H' := am_ H
      clear H
      obtain ⟨Ao27, co27, eo27⟩ := Kd.R_slice HO_6.out
      subst eo27
      go_wp2_with (first | ((with_reducible refine gate_callee (f := 71) rfl ?_); refine goesL_ (some 20) rfl rfl Try.func71 (by kernel_rfl) rfl #[.pointer (some ⟨g1040, 0, none⟩), .int .i64 3] rfl (by (try simp only [List.map_toArray, List.map_cons, List.map_nil]); first | done | rfl | (simp only [List.length_drop, List.length_take]; rfl)) ?_; (with_reducible refine (spec_l6Rd_pick.calls k1 g1040 t1038 x1041001_1 3 t1049 t1050 w _ ?side1 ?side2 A15.out).mono ?_); (case side1 => repeat (first | (with_reducible first | exact HI1040.out | apply IsS116.alloc | apply IsS116.drewN | apply IsS116.drew | apply IsS116.set_1 | refine IsS116.far ?_ NB1040_1037.out _ | refine IsS116.far ?_ NB1040_1045.out _) | exact HI1040.out)); (case side2 => repeat (first | (with_reducible first | exact HB.out | apply below_alloc | apply pw_below_drewN | apply below_drew1 | refine below_set ?_ (IsS116.ge HI1040.out) | refine below_set ?_ GE1037.out | refine below_set ?_ GE1045.out) | exact HB.out)); rintro e w28 ⟨rfl, hi, hb, hk⟩; refine ⟨_, rfl, ?_⟩; have n0_ := am_ (Kd.R_mono (Kd.R_keep (IsS116.apart (show IsS116 w _ g1040 t1038 x1041001_1 from by repeat (first | (with_reducible first | exact HI1040.out | apply IsS116.alloc | apply IsS116.drewN | apply IsS116.drew | apply IsS116.set_1 | refine IsS116.far ?_ NB1040_1037.out _ | refine IsS116.far ?_ NB1040_1045.out _) | exact HI1040.out)) (ru HO_6.out) (by decide)) hk (fun _ h => h.2)) (fun _ h => h.1)); have n1_ := am_ (Kd.N_mono (Kd.N_keep (Kd.N_mono (ok := fun k_ => (((w.heap.size ≤ k_)) ∧ (some k_ ≠ (.slice Ao27 x6_1.length co27 : Value).ownBlock ∧ (k_ ≠ gb1037 ∧ (k_ ≠ gb1045 ∧ k_ ≠ g1040))))) (nu HO_1046000.out) (fun k_ hk_ => (⟨hk_, hk_.2.2.2.2⟩ : _ ∧ k_ ≠ g1040))) hk (fun _ h => h.2)) (fun _ h => h.1)); have n2_ := am_ (KeepBut.blk hk (bu BK1037.out) NB1037_1040.out (by simp)); have n3_ := am_ (KeepBut.blk hk (bu BK1045.out) NB1045_1040.out (by simp)); have n4_ := am_ (hb); have n5_ := am_ (hi); clear HO_6 HO_1046000 BK1037 BK1045 HB HI1040; have HO_6 := n0_; have HO_1046000 := n1_; have BK1037 := n2_; have BK1045 := n3_; have HB := n4_; have HI1040 := n5_; clear n0_ n1_ n2_ n3_ n4_ n5_; (try clear hb); (try clear hb2); (try clear hk); (try clear hi)) | ((with_reducible refine gate_callee (f := 101) rfl ?_); refine goesL_ (some 29) rfl rfl Try.func101 (by kernel_rfl) rfl #[.slice Ao27 x6_1.length co27, .int .i64 (wrap64 (1 + t1049))] rfl (by (try simp only [List.map_toArray, List.map_cons, List.map_nil]); first | done | rfl | (simp only [List.length_drop, List.length_take]; rfl)) ?_; (with_reducible refine (spec_l12Has.calls k1 _ _ x6_1 (wrap64 (1 + t1049)) true _ ?side1 ?side2 A25.out).mono ?_); (case side1 => repeat (first | exact (Kd.R_reads' HO_6.out).2.2 | (with_reducible refine Kd.C_alloc ?_ _) | (with_reducible refine Kd.C_drewN ?_ _) | (with_reducible refine Kd.C_drew ?_))); (case side2 => exact (Kd.R_reads' HO_6.out).2.1); rintro e w' ⟨rfl, ⟨nd, rfl⟩⟩; refine ⟨_, rfl, ?_⟩))
      go_roundg k1
      case measure => have := HK1.out; omega
      case rel => exact ⟨(x6_1), (wrap64 (x7_1 + 1)), (t1050), z50_1, H', ⟨by have := HK1.out; omega⟩, ⟨ru HO_6.out⟩, ⟨nu HO_1046000.out⟩, ⟨bu BK1037.out⟩, ⟨bu BK1045.out⟩, ⟨z50_7⟩, ⟨z50_8⟩⟩
     ·replace c26 := Bool.eq_false_iff.mpr c26
      subst c26
      have H1 : (if x6_1.length < 17592186044416 then (spec_DrawTurnVals.l0 k1 (x6_1 ++ [wrap64 (1 + t1049)]) (wrap64 (x7_1 + 1)) t1038 t1050 t1041) else (none)) = some (r1, r2) := by rw [if_neg (show ¬ (false = true) by decide)] at H; exact H
      clear H
      have H := H1
      clear H1
      by_cases c29 : x6_1.length < 17592186044416
      ·rw [if_pos c29] at H
       have LMc29 := am_ c29
       clear c29
       obtain ⟨y1056, hy1056⟩ : ∃ y_ : List Int, y_ = (x6_1 ++ [wrap64 (1 + t1049)]) := ⟨_, rfl⟩
       replace H : (spec_DrawTurnVals.l0 k1 y1056 (wrap64 (x7_1 + 1)) t1038 t1050 t1041) = some (r1, r2) := by first | (rw [hy1056]; with_reducible exact H) | (have H2_ := (Option.bind_some _ _).symm.trans H; rw [hy1056]; with_reducible exact H2_) | (have H2_ := (Option.bind_some _ _).symm.trans H; with_reducible exact H2_) | with_reducible exact H | (rw [hy1056]; exact H) | exact H
       have Ny1056 := am_ hy1056
       clear hy1056
       have H' := am_ H
       clear H
       obtain ⟨Ao30, co30, eo30⟩ := Kd.R_slice HO_6.out
       subst eo30
       go_wp2_with (first | ((with_reducible refine gate_callee (f := 71) rfl ?_); refine goesL_ (some 20) rfl rfl Try.func71 (by kernel_rfl) rfl #[.pointer (some ⟨g1040, 0, none⟩), .int .i64 3] rfl (by (try simp only [List.map_toArray, List.map_cons, List.map_nil]); first | done | rfl | (simp only [List.length_drop, List.length_take]; rfl)) ?_; (with_reducible refine (spec_l6Rd_pick.calls k1 g1040 t1038 x1041001_1 3 t1049 t1050 w _ ?side1 ?side2 A15.out).mono ?_); (case side1 => repeat (first | (with_reducible first | exact HI1040.out | apply IsS116.alloc | apply IsS116.drewN | apply IsS116.drew | apply IsS116.set_1 | refine IsS116.far ?_ NB1040_1037.out _ | refine IsS116.far ?_ NB1040_1045.out _) | exact HI1040.out)); (case side2 => repeat (first | (with_reducible first | exact HB.out | apply below_alloc | apply pw_below_drewN | apply below_drew1 | refine below_set ?_ (IsS116.ge HI1040.out) | refine below_set ?_ GE1037.out | refine below_set ?_ GE1045.out) | exact HB.out)); rintro e w31 ⟨rfl, hi, hb, hk⟩; refine ⟨_, rfl, ?_⟩; have n0_ := am_ (Kd.R_mono (Kd.R_keep (IsS116.apart (show IsS116 w _ g1040 t1038 x1041001_1 from by repeat (first | (with_reducible first | exact HI1040.out | apply IsS116.alloc | apply IsS116.drewN | apply IsS116.drew | apply IsS116.set_1 | refine IsS116.far ?_ NB1040_1037.out _ | refine IsS116.far ?_ NB1040_1045.out _) | exact HI1040.out)) (ru HO_6.out) (by decide)) hk (fun _ h => h.2)) (fun _ h => h.1)); have n1_ := am_ (Kd.N_mono (Kd.N_keep (Kd.N_mono (ok := fun k_ => (((w.heap.size ≤ k_)) ∧ (some k_ ≠ (.slice Ao30 x6_1.length co30 : Value).ownBlock ∧ (k_ ≠ gb1037 ∧ (k_ ≠ gb1045 ∧ k_ ≠ g1040))))) (nu HO_1046000.out) (fun k_ hk_ => (⟨hk_, hk_.2.2.2.2⟩ : _ ∧ k_ ≠ g1040))) hk (fun _ h => h.2)) (fun _ h => h.1)); have n2_ := am_ (KeepBut.blk hk (bu BK1037.out) NB1037_1040.out (by simp)); have n3_ := am_ (KeepBut.blk hk (bu BK1045.out) NB1045_1040.out (by simp)); have n4_ := am_ (hb); have n5_ := am_ (hi); clear HO_6 HO_1046000 BK1037 BK1045 HB HI1040; have HO_6 := n0_; have HO_1046000 := n1_; have BK1037 := n2_; have BK1045 := n3_; have HB := n4_; have HI1040 := n5_; clear n0_ n1_ n2_ n3_ n4_ n5_; (try clear hb); (try clear hb2); (try clear hk); (try clear hi)) | ((with_reducible refine gate_callee (f := 101) rfl ?_); refine goesL_ (some 29) rfl rfl Try.func101 (by kernel_rfl) rfl #[.slice Ao30 x6_1.length co30, .int .i64 (wrap64 (1 + t1049))] rfl (by (try simp only [List.map_toArray, List.map_cons, List.map_nil]); first | done | rfl | (simp only [List.length_drop, List.length_take]; rfl)) ?_; (with_reducible refine (spec_l12Has.calls k1 _ _ x6_1 (wrap64 (1 + t1049)) false _ ?side1 ?side2 A25.out).mono ?_); (case side1 => repeat (first | exact (Kd.R_reads' HO_6.out).2.2 | (with_reducible refine Kd.C_alloc ?_ _) | (with_reducible refine Kd.C_drewN ?_ _) | (with_reducible refine Kd.C_drew ?_))); (case side2 => exact (Kd.R_reads' HO_6.out).2.1); rintro e w' ⟨rfl, ⟨nd, rfl⟩⟩; refine ⟨_, rfl, ?_⟩) | ((with_reducible refine gate_builtin (b := .append) (xs := #[.tmp 31, .tmp 33]) rfl ?_); at_builtin; refine Kd.R_append (Kd.int .i64) (w0 := w) w.heap.size rfl (.tmp 31) (.tmp 33) 22 3 (.int .i64 0) 8 rfl Try.underlying22 info3 rfl (by decide) (by omega) (.slice Ao30 x6_1.length co30) x6_1 (wrap64 (1 + t1049)) [.int .i64 (wrap64 (1 + t1049))] (fun k_ => (w.heap.size ≤ k_)) (fun _ => False) rfl rfl ?aP (fun _ hk => hk.elim) ?aF ?aO ?aB ?aS ?aL ?_; (case aP => exact rfl); (case aB => exact z50_8); (case aF => exact (fun k_ hk => (Nat.le_trans (below_size z50_8) hk))); (case aO => exact (ru HO_6.out)); (case aS => exact (below_size z50_8)); (case aL => have := LMc29.out; omega); intro v1057 w32 ho hb hg hat; rw [← Ny1056.out] at ho; have n0_ := am_ (Kd.N_afterv (ok := (fun k_ => (w.heap.size ≤ k_) ∧ k_ ≠ gb1037 ∧ k_ ≠ gb1045 ∧ k_ ≠ g1040)) (nu (Kd.N_mono HO_1046000.out (fun _ hk => ⟨⟨hk.1, ⟨hk.2.2.1, ⟨hk.2.2.2.1, hk.2.2.2.2⟩⟩⟩, hk.2.1⟩))) hg hat); have n1_ := am_ (blk_grown (bu BK1037.out) hg (Kd.R_ne HO_6.out BK1037.out (by decide))); have n2_ := am_ (blk_grown (bu BK1045.out) hg (Kd.R_ne HO_6.out BK1045.out (by decide))); have n3_ := am_ (IsS116.grown z50_7 hg (IsS116.own_ne HI1040.out HO_6.out (by decide))); have n4_ := am_ (hb); have n5_ := am_ (ho); clear HO_1046000 BK1037 BK1045 HI1040 HB HO_6; have HO_1046000 := n0_; have BK1037 := n1_; have BK1045 := n2_; have HI1040 := n3_; have HB := n4_; have HO1058 := n5_; clear n0_ n1_ n2_ n3_ n4_ n5_; clear ho hb hg hat))
       go_roundg k1
       case measure => have := HK1.out; omega
       case rel => exact ⟨(y1056), (wrap64 (x7_1 + 1)), (t1050), z50_1, H', ⟨by have := HK1.out; omega⟩, ⟨ru HO1058.out⟩, ⟨nu (Kd.N_mono HO_1046000.out (fun _ hk => ⟨hk.1.1, ⟨hk.2, ⟨hk.1.2.1, ⟨hk.1.2.2.1, hk.1.2.2.2⟩⟩⟩⟩))⟩, ⟨bu BK1037.out⟩, ⟨bu BK1045.out⟩, ⟨z50_7⟩, ⟨z50_8⟩⟩
      ·rw [if_neg c29] at H
       exact absurd H (by simp)
   ·rw [if_neg c14] at H
    have c14b0 : decide ((x6_1.length : Int) ≤ 3) = false := decide_eq_false c14
    have c14b1 : decide (x6_1.length ≤ 3) = false := decide_eq_false (by omega)
    clear c14
    replace H := Option.bind_eq_some_iff.mp H
    obtain ⟨⟨t1059, t1060⟩, A330, H⟩ := H
    replace H : (if t1059 = 0 then ((spec_l6Rd_pick.f k1 t1038 t1060 (x6_1.length : Int)).bind fun bt1061 => ((spec_l6Rd_pick.f k1 t1038 bt1061.2 4).bind fun bt1063 => (if 0 ≤ bt1061.1 then (if bt1061.1 < (x6_1.length : Int) then (some (t1041, (x6_1.set (bt1061.1 : Int).toNat bt1063.1))) else (none)) else (none)))) else (some (t1041, x6_1))) = some (r1, r2) := H
    have A33 := am_ A330
    clear A330
    by_cases c34 : t1059 = 0
    ·rw [if_pos c34] at H
     have c34b0 : (t1059 == 0) = true := beq_iff_eq.mpr c34
     have c34b1 : (t1059 != 0) = false := bne_eq_false_iff_eq.mpr c34
     clear c34
     replace H := Option.bind_eq_some_iff.mp H
     obtain ⟨⟨t1061, t1062⟩, A350, H⟩ := H
     replace H : ((spec_l6Rd_pick.f k1 t1038 t1062 4).bind fun bt1063 => (if 0 ≤ t1061 then (if t1061 < (x6_1.length : Int) then (some (t1041, (x6_1.set (t1061 : Int).toNat bt1063.1))) else (none)) else (none))) = some (r1, r2) := H
     have A35 := am_ A350
     clear A350
     replace H := Option.bind_eq_some_iff.mp H
     obtain ⟨⟨t1063, t1064⟩, A360, H⟩ := H
     replace H : (if 0 ≤ t1061 then (if t1061 < (x6_1.length : Int) then (some (t1041, (x6_1.set (t1061 : Int).toNat t1063))) else (none)) else (none)) = some (r1, r2) := H
     have A36 := am_ A360
     clear A360
     by_cases c37 : 0 ≤ t1061
     ·rw [if_pos c37] at H
      have c37b0 : decide (0 ≤ t1061) = true := decide_eq_true c37
      clear c37
      by_cases c38 : t1061 < (x6_1.length : Int)
      ·rw [if_pos c38] at H
       have c38b0 : decide (t1061 < (x6_1.length : Int)) = true := decide_eq_true c38
       clear c38
       obtain ⟨y1065, hy1065⟩ : ∃ y_ : List Int, y_ = (x6_1.set (t1061 : Int).toNat t1063) := ⟨_, rfl⟩
       replace H : (some (t1041, y1065)) = some (r1, r2) := by first | (rw [hy1065]; with_reducible exact H) | (have H2_ := (Option.bind_some _ _).symm.trans H; rw [hy1065]; with_reducible exact H2_) | (have H2_ := (Option.bind_some _ _).symm.trans H; with_reducible exact H2_) | with_reducible exact H | (rw [hy1065]; exact H) | exact H
       have Ny1065 := am_ hy1065
       clear hy1065
       simp only [Option.some.injEq, Prod.mk.injEq] at H
       obtain ⟨rfl, rfl⟩ := H
       obtain ⟨Ao40, co40, eo40⟩ := Kd.R_slice HO_6.out
       subst eo40
       go_wp2_with (first | ((with_reducible refine gate_callee (f := 71) rfl ?_); refine goesL_ (some 36) rfl rfl Try.func71 (by kernel_rfl) rfl #[.pointer (some ⟨g1040, 0, none⟩), .int .i64 16] rfl (by (try simp only [List.map_toArray, List.map_cons, List.map_nil]); first | done | rfl | (simp only [List.length_drop, List.length_take]; rfl)) ?_; (with_reducible refine (spec_l6Rd_pick.calls k1 g1040 t1038 x1041001_1 16 t1059 t1060 w _ ?side1 ?side2 A33.out).mono ?_); (case side1 => repeat (first | (with_reducible first | exact HI1040.out | apply IsS116.alloc | apply IsS116.drewN | apply IsS116.drew | apply IsS116.set_1 | refine IsS116.far ?_ NB1040_1037.out _ | refine IsS116.far ?_ NB1040_1045.out _) | exact HI1040.out)); (case side2 => repeat (first | (with_reducible first | exact HB.out | apply below_alloc | apply pw_below_drewN | apply below_drew1 | refine below_set ?_ (IsS116.ge HI1040.out) | refine below_set ?_ GE1037.out | refine below_set ?_ GE1045.out) | exact HB.out)); rintro e w41 ⟨rfl, hi, hb, hk⟩; refine ⟨_, rfl, ?_⟩; have n0_ := am_ (Kd.R_mono (Kd.R_keep (IsS116.apart (show IsS116 w _ g1040 t1038 x1041001_1 from by repeat (first | (with_reducible first | exact HI1040.out | apply IsS116.alloc | apply IsS116.drewN | apply IsS116.drew | apply IsS116.set_1 | refine IsS116.far ?_ NB1040_1037.out _ | refine IsS116.far ?_ NB1040_1045.out _) | exact HI1040.out)) (ru HO_6.out) (by decide)) hk (fun _ h => h.2)) (fun _ h => h.1)); have n1_ := am_ (Kd.N_mono (Kd.N_keep (Kd.N_mono (ok := fun k_ => (((w.heap.size ≤ k_)) ∧ (some k_ ≠ (.slice Ao40 x6_1.length co40 : Value).ownBlock ∧ (k_ ≠ gb1037 ∧ (k_ ≠ gb1045 ∧ k_ ≠ g1040))))) (nu HO_1046000.out) (fun k_ hk_ => (⟨hk_, hk_.2.2.2.2⟩ : _ ∧ k_ ≠ g1040))) hk (fun _ h => h.2)) (fun _ h => h.1)); have n2_ := am_ (KeepBut.blk hk (bu BK1037.out) NB1037_1040.out (by simp)); have n3_ := am_ (KeepBut.blk hk (bu BK1045.out) NB1045_1040.out (by simp)); have n4_ := am_ (hb); have n5_ := am_ (hi); clear HO_6 HO_1046000 BK1037 BK1045 HB HI1040; have HO_6 := n0_; have HO_1046000 := n1_; have BK1037 := n2_; have BK1045 := n3_; have HB := n4_; have HI1040 := n5_; clear n0_ n1_ n2_ n3_ n4_ n5_; (try clear hb); (try clear hb2); (try clear hk); (try clear hi)) | ((with_reducible refine gate_callee (f := 71) rfl ?_); refine goesL_ (some 42) rfl rfl Try.func71 (by kernel_rfl) rfl #[.pointer (some ⟨g1040, 0, none⟩), .int .i64 (x6_1.length : Int)] rfl (by (try simp only [List.map_toArray, List.map_cons, List.map_nil]); first | done | rfl | (simp only [List.length_drop, List.length_take]; rfl)) ?_; (with_reducible refine (spec_l6Rd_pick.calls k1 g1040 t1038 t1060 (x6_1.length : Int) t1061 t1062 w _ ?side1 ?side2 A35.out).mono ?_); (case side1 => repeat (first | (with_reducible first | exact HI1040.out | apply IsS116.alloc | apply IsS116.drewN | apply IsS116.drew | apply IsS116.set_1 | refine IsS116.far ?_ NB1040_1037.out _ | refine IsS116.far ?_ NB1040_1045.out _) | exact HI1040.out)); (case side2 => repeat (first | (with_reducible first | exact HB.out | apply below_alloc | apply pw_below_drewN | apply below_drew1 | refine below_set ?_ (IsS116.ge HI1040.out) | refine below_set ?_ GE1037.out | refine below_set ?_ GE1045.out) | exact HB.out)); rintro e w42 ⟨rfl, hi, hb, hk⟩; refine ⟨_, rfl, ?_⟩; have n0_ := am_ (Kd.R_mono (Kd.R_keep (IsS116.apart (show IsS116 w _ g1040 t1038 t1060 from by repeat (first | (with_reducible first | exact HI1040.out | apply IsS116.alloc | apply IsS116.drewN | apply IsS116.drew | apply IsS116.set_1 | refine IsS116.far ?_ NB1040_1037.out _ | refine IsS116.far ?_ NB1040_1045.out _) | exact HI1040.out)) (ru HO_6.out) (by decide)) hk (fun _ h => h.2)) (fun _ h => h.1)); have n1_ := am_ (Kd.N_mono (Kd.N_keep (Kd.N_mono (ok := fun k_ => (((w.heap.size ≤ k_)) ∧ (some k_ ≠ (.slice Ao40 x6_1.length co40 : Value).ownBlock ∧ (k_ ≠ gb1037 ∧ (k_ ≠ gb1045 ∧ k_ ≠ g1040))))) (nu HO_1046000.out) (fun k_ hk_ => (⟨hk_, hk_.2.2.2.2⟩ : _ ∧ k_ ≠ g1040))) hk (fun _ h => h.2)) (fun _ h => h.1)); have n2_ := am_ (KeepBut.blk hk (bu BK1037.out) NB1037_1040.out (by simp)); have n3_ := am_ (KeepBut.blk hk (bu BK1045.out) NB1045_1040.out (by simp)); have n4_ := am_ (hb); have n5_ := am_ (hi); clear HO_6 HO_1046000 BK1037 BK1045 HB HI1040; have HO_6 := n0_; have HO_1046000 := n1_; have BK1037 := n2_; have BK1045 := n3_; have HB := n4_; have HI1040 := n5_; clear n0_ n1_ n2_ n3_ n4_ n5_; (try clear hb); (try clear hb2); (try clear hk); (try clear hi)) | ((with_reducible refine gate_callee (f := 71) rfl ?_); refine goesL_ (some 44) rfl rfl Try.func71 (by kernel_rfl) rfl #[.pointer (some ⟨g1040, 0, none⟩), .int .i64 4] rfl (by (try simp only [List.map_toArray, List.map_cons, List.map_nil]); first | done | rfl | (simp only [List.length_drop, List.length_take]; rfl)) ?_; (with_reducible refine (spec_l6Rd_pick.calls k1 g1040 t1038 t1062 4 t1063 t1064 w _ ?side1 ?side2 A36.out).mono ?_); (case side1 => repeat (first | (with_reducible first | exact HI1040.out | apply IsS116.alloc | apply IsS116.drewN | apply IsS116.drew | apply IsS116.set_1 | refine IsS116.far ?_ NB1040_1037.out _ | refine IsS116.far ?_ NB1040_1045.out _) | exact HI1040.out)); (case side2 => repeat (first | (with_reducible first | exact HB.out | apply below_alloc | apply pw_below_drewN | apply below_drew1 | refine below_set ?_ (IsS116.ge HI1040.out) | refine below_set ?_ GE1037.out | refine below_set ?_ GE1045.out) | exact HB.out)); rintro e w43 ⟨rfl, hi, hb, hk⟩; refine ⟨_, rfl, ?_⟩; have n0_ := am_ (Kd.R_mono (Kd.R_keep (IsS116.apart (show IsS116 w _ g1040 t1038 t1062 from by repeat (first | (with_reducible first | exact HI1040.out | apply IsS116.alloc | apply IsS116.drewN | apply IsS116.drew | apply IsS116.set_1 | refine IsS116.far ?_ NB1040_1037.out _ | refine IsS116.far ?_ NB1040_1045.out _) | exact HI1040.out)) (ru HO_6.out) (by decide)) hk (fun _ h => h.2)) (fun _ h => h.1)); have n1_ := am_ (Kd.N_mono (Kd.N_keep (Kd.N_mono (ok := fun k_ => (((w.heap.size ≤ k_)) ∧ (some k_ ≠ (.slice Ao40 x6_1.length co40 : Value).ownBlock ∧ (k_ ≠ gb1037 ∧ (k_ ≠ gb1045 ∧ k_ ≠ g1040))))) (nu HO_1046000.out) (fun k_ hk_ => (⟨hk_, hk_.2.2.2.2⟩ : _ ∧ k_ ≠ g1040))) hk (fun _ h => h.2)) (fun _ h => h.1)); have n2_ := am_ (KeepBut.blk hk (bu BK1037.out) NB1037_1040.out (by simp)); have n3_ := am_ (KeepBut.blk hk (bu BK1045.out) NB1045_1040.out (by simp)); have n4_ := am_ (hb); have n5_ := am_ (hi); clear HO_6 HO_1046000 BK1037 BK1045 HB HI1040; have HO_6 := n0_; have HO_1046000 := n1_; have BK1037 := n2_; have BK1045 := n3_; have HB := n4_; have HI1040 := n5_; clear n0_ n1_ n2_ n3_ n4_ n5_; (try clear hb); (try clear hb2); (try clear hk); (try clear hi); have p39 : 0 ≤ (t1061 : Int) := of_decide_eq_true z50_2; have q39 : (t1061 : Int) < ((x6_1.length : Int) : Int) := of_decide_eq_true z50_2; obtain ⟨go39, co39, eo39, gb39, gl39, cl39, HG39⟩ := Kd.R_form HO_6.out (by omega); (first | cases eo39 | (injection eo39 with ea_ en_ ec_; (first | subst ea_ | (injection ea_ with ea_; subst ea_)); subst ec_; clear en_)); have GB39 := am_ gb39; have GG39 := am_ HG39; clear gb39 gl39 HG39; obtain ⟨hx39_0, hf39_0⟩ := Kd.R_celln 0 HO_6.out (t1061 : Int) p39 q39; replace p39 := eq_true p39; replace q39 := eq_true q39; obtain ⟨hy44_, hz44_⟩ := Kd.R_celln 0 HO_6.out (t1061 : Int) (of_decide_eq_true z50_2) (of_decide_eq_true z50_2); have HP44 := Kd.R_putg HO_6.out (t1061 : Int) t1063) | ((with_reducible refine gate_store (t := 3) (p := 45) rfl ?_); refine store_event (t := 3) (p := 45) (v := ?vo_w45) (w1 := (w43.setCell ⟨go39, (t1061 : Int).toNat, none⟩ (.int .i64 t1063))) ?hg ?ho ?hn ?hr ?_; (case ho => rfl); (case hg => rfl); (case hn => rfl); (case hr => first | (go_simp; done) | (go_simp; rfl)); intro w45 hw; have hg : w43.grownBy w45 (some go39) := (by rw [hw]; exact HP44.2); have hp_ : Kd.R (Kd.int .i64) 3 w45 w.heap.size (fun k_ => (w.heap.size ≤ k_)) (.slice (some ⟨go39, 0, none⟩) x6_1.length co40) y1065 := (by rw [hw, Ny1065.out]; exact HP44.1); clear HP44; have n0_ := am_ (hp_); have n1_ := am_ (Kd.N_afterv (v := (.slice (some ⟨go39, 0, none⟩) x6_1.length co40)) (v1 := (.slice (some ⟨go39, 0, none⟩) x6_1.length co40)) (ok := (fun k_ => (w.heap.size ≤ k_) ∧ k_ ≠ gb1037 ∧ k_ ≠ gb1045 ∧ k_ ≠ g1040)) (nu (Kd.N_mono HO_1046000.out (fun _ hk => ⟨⟨hk.1, ⟨hk.2.2.1, ⟨hk.2.2.2.1, hk.2.2.2.2⟩⟩⟩, hk.2.1⟩))) hg (.inl rfl)); have n2_ := am_ (blk_grown (bu BK1037.out) hg (Kd.R_ne HO_6.out BK1037.out (by decide))); have n3_ := am_ (blk_grown (bu BK1045.out) hg (Kd.R_ne HO_6.out BK1045.out (by decide))); have n4_ := am_ (IsS116.grown z50_7 hg (IsS116.own_ne HI1040.out HO_6.out (by decide))); have n5_ := am_ (by rw [hw]; exact below_set (HB.out) GB39.out : Below w.heap.size w w45); clear HO_6 HO_1046000 BK1037 BK1045 HI1040 HB; have HO_6 := n0_; have HO_1046000 := n1_; have BK1037 := n2_; have BK1045 := n3_; have HI1040 := n4_; have HB := n5_; clear n0_ n1_ n2_ n3_ n4_ n5_; clear hg hw hp_; have hnb46 := NB1045_1037.out; have hnc46 := NB1037_1045.out; have hnb47 := NB1045_1040.out; have hnc47 := NB1040_1045.out; have hcz48_0 : w45.cell? ⟨gb1045, 0, none⟩ = some (.slice Ao8 t1041.length co8) := (blk_cell BK1045.out 0).trans rfl; have hfz48_0 := blk_frozen BK1045.out 0; have hnb49 := NB1037_1040.out; have hnc49 := NB1040_1037.out; have hcz50_0 : w45.cell? ⟨gb1037, 0, none⟩ = some (.slice none 0 0) := (blk_cell BK1037.out 0).trans rfl; have hfz50_0 := blk_frozen BK1037.out 0))
       refine bodyPost_ret (results_ct rfl _ _ gb1037 35 #[.slice Ao8 t1041.length co8] (0, 0) _ rfl z50_9 Try.underlying35 rfl (by kernel_rfl)) rfl ?_
       exact ⟨_, _, z50_3, nu (Kd.N_mono (Kd.N_far (p := ⟨gb1037, 0, none⟩) (Kd.N_mono HO_1046000.out (fun k_ hk => (⟨hk, hk.1.2.1⟩ : _ ∧ k_ ≠ gb1037))) (fun _ hk => hk.2) (.slice Ao8 t1041.length co8)) (fun _ hk => ⟨hk.1.1.1, hk.1.2⟩)), ru (Kd.R_mono (Kd.R_far (p := ⟨gb1037, 0, none⟩) (Kd.R_types HO_6.out BK1037.out (by decide)) (fun _ hk => hk.2) (.slice Ao8 t1041.length co8)) (fun _ hk => hk.1)), z50_8⟩
      ·rw [if_neg c38] at H
       exact absurd H (by simp)
     ·rw [if_neg c37] at H
      exact absurd H (by simp)
    ·rw [if_neg c34] at H
     have c34b0 : (t1059 == 0) = false := beq_eq_false_iff_ne.mpr c34
     have c34b1 : (t1059 != 0) = true := bne_iff_ne.mpr c34
     simp only [Option.some.injEq, Prod.mk.injEq] at H
     obtain ⟨rfl, rfl⟩ := H
     obtain ⟨Ao51, co51, eo51⟩ := Kd.R_slice HO_6.out
     subst eo51
     go_wp2_with (first | ((with_reducible refine gate_callee (f := 71) rfl ?_); refine goesL_ (some 36) rfl rfl Try.func71 (by kernel_rfl) rfl #[.pointer (some ⟨g1040, 0, none⟩), .int .i64 16] rfl (by (try simp only [List.map_toArray, List.map_cons, List.map_nil]); first | done | rfl | (simp only [List.length_drop, List.length_take]; rfl)) ?_; (with_reducible refine (spec_l6Rd_pick.calls k1 g1040 t1038 x1041001_1 16 t1059 t1060 w _ ?side1 ?side2 A33.out).mono ?_); (case side1 => repeat (first | (with_reducible first | exact HI1040.out | apply IsS116.alloc | apply IsS116.drewN | apply IsS116.drew | apply IsS116.set_1 | refine IsS116.far ?_ NB1040_1037.out _ | refine IsS116.far ?_ NB1040_1045.out _) | exact HI1040.out)); (case side2 => repeat (first | (with_reducible first | exact HB.out | apply below_alloc | apply pw_below_drewN | apply below_drew1 | refine below_set ?_ (IsS116.ge HI1040.out) | refine below_set ?_ GE1037.out | refine below_set ?_ GE1045.out) | exact HB.out)); rintro e w52 ⟨rfl, hi, hb, hk⟩; refine ⟨_, rfl, ?_⟩; have n0_ := am_ (Kd.R_mono (Kd.R_keep (IsS116.apart (show IsS116 w _ g1040 t1038 x1041001_1 from by repeat (first | (with_reducible first | exact HI1040.out | apply IsS116.alloc | apply IsS116.drewN | apply IsS116.drew | apply IsS116.set_1 | refine IsS116.far ?_ NB1040_1037.out _ | refine IsS116.far ?_ NB1040_1045.out _) | exact HI1040.out)) (ru HO_6.out) (by decide)) hk (fun _ h => h.2)) (fun _ h => h.1)); have n1_ := am_ (Kd.N_mono (Kd.N_keep (Kd.N_mono (ok := fun k_ => (((w.heap.size ≤ k_)) ∧ (some k_ ≠ (.slice Ao51 x6_1.length co51 : Value).ownBlock ∧ (k_ ≠ gb1037 ∧ (k_ ≠ gb1045 ∧ k_ ≠ g1040))))) (nu HO_1046000.out) (fun k_ hk_ => (⟨hk_, hk_.2.2.2.2⟩ : _ ∧ k_ ≠ g1040))) hk (fun _ h => h.2)) (fun _ h => h.1)); have n2_ := am_ (KeepBut.blk hk (bu BK1037.out) NB1037_1040.out (by simp)); have n3_ := am_ (KeepBut.blk hk (bu BK1045.out) NB1045_1040.out (by simp)); have n4_ := am_ (hb); have n5_ := am_ (hi); clear HO_6 HO_1046000 BK1037 BK1045 HB HI1040; have HO_6 := n0_; have HO_1046000 := n1_; have BK1037 := n2_; have BK1045 := n3_; have HB := n4_; have HI1040 := n5_; clear n0_ n1_ n2_ n3_ n4_ n5_; (try clear hb); (try clear hb2); (try clear hk); (try clear hi); have hnb53 := NB1045_1037.out; have hnc53 := NB1037_1045.out; have hnb54 := NB1045_1040.out; have hnc54 := NB1040_1045.out; have hcz55_0 : w52.cell? ⟨gb1045, 0, none⟩ = some (.slice Ao8 t1041.length co8) := (blk_cell BK1045.out 0).trans rfl; have hfz55_0 := blk_frozen BK1045.out 0; have hnb56 := NB1037_1040.out; have hnc56 := NB1040_1037.out; have hcz57_0 : w52.cell? ⟨gb1037, 0, none⟩ = some (.slice none 0 0) := (blk_cell BK1037.out 0).trans rfl; have hfz57_0 := blk_frozen BK1037.out 0))
     refine bodyPost_ret (results_ct rfl _ _ gb1037 35 #[.slice Ao8 t1041.length co8] (0, 0) _ rfl z50_9 Try.underlying35 rfl (by kernel_rfl)) rfl ?_
     exact ⟨_, _, z50_3, nu (Kd.N_mono (Kd.N_far (p := ⟨gb1037, 0, none⟩) (Kd.N_mono HO_1046000.out (fun k_ hk => (⟨hk, hk.2.2.1⟩ : _ ∧ k_ ≠ gb1037))) (fun _ hk => hk.2) (.slice Ao8 t1041.length co8)) (fun _ hk => ⟨hk.1.1, hk.1.2.1⟩)), ru (Kd.R_mono (Kd.R_far (p := ⟨gb1037, 0, none⟩) (Kd.R_types HO_6.out BK1037.out (by decide)) (fun _ hk => hk.2) (.slice Ao8 t1041.length co8)) (fun _ hk => hk.1)), z50_8⟩

end Go.Proofs.Ytefkbmhkhpekjaa.PB

namespace Go.Proofs.Ytefkbmhkhpekjaa.PB
open Go.RowKit Go.Proofs.YtefkbmhkhpekjaaW.PrintWords Go.Proofs.YtefkbmhkhpekjaaW.PrintLast Go.Proofs.YtefkbmhkhpekjaaW.PrintMore
attribute [local go_sem] max2_int min2_int max_two min_two max_three min_three max_four min_four   -- for this text's walks alone
open Go.Proofs.YtefkbmhkhpekjaaMine
set_option linter.unusedVariables false
set_option linter.unusedSimpArgs false

theorem z100_1 {p : Prop} (h : p := by first | rfl | (simp; done) | (simp [*]; done)) : p := h
theorem z100_2 {p : Prop} (h : p := by repeat (first | exact Drawn0.refl _ | apply Drawn0.step)) : p := h
/-! ### spec_l22Row: function 100 -/
def spec_l22Row.l0 : Nat → List Int → Int → Int → Option (Bool)
  | 0, _, _, _ => none
  | k + 1, x0, x1, x5 => if x5 < x1 then ((spec_l12Has.f k x0 x5).bind fun t1020 => (if t1020 = true then (spec_l22Row.l0 k x0 x1 (wrap64 (x5 + 1))) else (some false))) else (some true)
def spec_l22Row.f (k : Nat) (l0 : List Int) (a1 : Int) : Option (Bool) := if (l0.length : Int) = a1 then (spec_l22Row.l0 k l0 a1 0) else (some false)
theorem spec_l22Row.mono_l : ∀ k, (∀ y0 y1 y2, LeO (spec_l22Row.l0 k y0 y1 y2) (spec_l22Row.l0 (k + 1) y0 y1 y2))
  | 0 => fun _ _ _ r h => by simp [spec_l22Row.l0] at h
  | k + 1 => by
    have ih0 := spec_l22Row.mono_l k
    · intro y0 y1 y2
      unfold spec_l22Row.l0
      repeat' first
      | (with_reducible exact ih0 _ _ _)
      | (with_reducible exact spec_l12Has.mono _ _ _)
      | (with_reducible exact LeO.refl _)
      | (with_reducible exact LeO.none _)
      | (with_reducible refine LeO.ite ?_ ?_)
      | (with_reducible refine LeO.bind ?_ (fun _ => ?_))
      | exact ih0 _ _ _
      | exact spec_l12Has.mono _ _ _
      | exact LeO.none _
      | refine LeO.ite ?_ ?_
      | refine LeO.bind ?_ (fun _ => ?_)
theorem spec_l22Row.mono : ∀ a0 a1 k, LeO (spec_l22Row.f k a0 a1) (spec_l22Row.f (k + 1) a0 a1) := by
  intro a0 a1 k
  have ih0 := spec_l22Row.mono_l k
  unfold spec_l22Row.f
  repeat' first
      | (with_reducible exact ih0 _ _ _)
      | (with_reducible exact spec_l12Has.mono _ _ _)
      | (with_reducible exact LeO.refl _)
      | (with_reducible exact LeO.none _)
      | (with_reducible refine LeO.ite ?_ ?_)
      | (with_reducible refine LeO.bind ?_ (fun _ => ?_))
      | exact ih0 _ _ _
      | exact spec_l12Has.mono _ _ _
      | exact LeO.none _
      | refine LeO.ite ?_ ?_
      | refine LeO.bind ?_ (fun _ => ?_)
set_option maxHeartbeats 8000000 in
set_option maxRecDepth 100000 in
theorem spec_l22Row.calls (k : Nat) (A0 : Option Addr) (c0 : Nat) (l0 : List Int) (a1 : Int) (r : Bool) (w : World) (hr0 : Kd.C (Kd.int .i64) w A0 l0.length l0) (hc0 : l0.length ≤ c0) (h : spec_l22Row.f k l0 a1 = some r) :
  Calls Try.prog 100 #[.slice A0 l0.length c0, .int .i64 a1] w fun e w' => e = .returned (.bool r) ∧ Drawn0 w w' := by
 have HR0 := am_ hr0
 have HC0 := am_ hc0
 clear hr0 hc0
 have H : (if (l0.length : Int) = a1 then (spec_l22Row.l0 k l0 a1 0) else (some false)) = some r := h
 clear h
 by_cases c3 : (l0.length : Int) = a1
 ·rw [if_pos c3] at H
  have c3b0 : ((l0.length : Int) == a1) = true := beq_iff_eq.mpr c3
  have c3b1 : ((l0.length : Int) != a1) = false := bne_eq_false_iff_eq.mpr c3
  clear c3
  have H' := am_ H
  clear H
  go_enter Try.func100, Try.ntmps100
  go_wp2
  go_loopg [5] k (fun kq v5 w' => ∃ (x5_1 : Int), v5 = .int .i64 x5_1 ∧ Aside0 (spec_l22Row.l0 kq l0 a1 x5_1 = some r) ∧ Aside0 (kq ≤ k) ∧ Drawn0 w w')
  case atStart => exact ⟨(0), z100_1, H', ⟨Nat.le_refl _⟩, z100_2⟩
  case round =>
   clear H'
   obtain ⟨x5_1, rfl, HA, HK1, ⟨m1, rfl⟩⟩ := hrel
   cases gk with
   | zero => exact absurd HA.out (by simp [spec_l22Row.l0])
   | succ k1 =>
    have H := HA.out
    clear HA
    simp only [spec_l22Row.l0] at H
    by_cases c4 : x5_1 < a1
    ·rw [if_pos c4] at H
     have c4b0 : decide (x5_1 < a1) = true := decide_eq_true c4
     clear c4
     replace H := Option.bind_eq_some_iff.mp H
     obtain ⟨t1020, A50, H⟩ := H
     replace H : (if t1020 = true then (spec_l22Row.l0 k1 l0 a1 (wrap64 (x5_1 + 1))) else (some false)) = some r := H
     have A5 := am_ A50
     clear A50
     by_cases c6 : t1020 = true
     ·subst c6
      have H1 : (spec_l22Row.l0 k1 l0 a1 (wrap64 (x5_1 + 1))) = some r := by rw [if_pos rfl] at H; exact H
      clear H
      have H := H1
      clear H1
      have H' := am_ H
      clear H
      go_wp2_with (first | ((with_reducible refine gate_callee (f := 101) rfl ?_); refine goesL_ (some 17) rfl rfl Try.func101 (by kernel_rfl) rfl #[.slice A0 l0.length c0, .int .i64 x5_1] rfl (by (try simp only [List.map_toArray, List.map_cons, List.map_nil]); first | done | rfl | (simp only [List.length_drop, List.length_take]; rfl)) ?_; (with_reducible refine (spec_l12Has.calls k1 _ _ l0 x5_1 true _ ?side1 ?side2 A5.out).mono ?_); (case side1 => repeat (first | exact HR0.out | (with_reducible refine Kd.C_alloc ?_ _) | (with_reducible refine Kd.C_drewN ?_ _) | (with_reducible refine Kd.C_drew ?_))); (case side2 => exact HC0.out); rintro e w' ⟨rfl, ⟨nd, rfl⟩⟩; refine ⟨_, rfl, ?_⟩))
      go_roundg k1
      case measure => have := HK1.out; omega
      case rel => exact ⟨(wrap64 (x5_1 + 1)), z100_1, H', ⟨by have := HK1.out; omega⟩, z100_2⟩
     ·replace c6 := Bool.eq_false_iff.mpr c6
      subst c6
      have H1 : (some false) = some r := by rw [if_neg (show ¬ (false = true) by decide)] at H; exact H
      clear H
      have H := H1
      clear H1
      obtain rfl := Option.some.inj H
      go_wp2_with (first | ((with_reducible refine gate_callee (f := 101) rfl ?_); refine goesL_ (some 17) rfl rfl Try.func101 (by kernel_rfl) rfl #[.slice A0 l0.length c0, .int .i64 x5_1] rfl (by (try simp only [List.map_toArray, List.map_cons, List.map_nil]); first | done | rfl | (simp only [List.length_drop, List.length_take]; rfl)) ?_; (with_reducible refine (spec_l12Has.calls k1 _ _ l0 x5_1 false _ ?side1 ?side2 A5.out).mono ?_); (case side1 => repeat (first | exact HR0.out | (with_reducible refine Kd.C_alloc ?_ _) | (with_reducible refine Kd.C_drewN ?_ _) | (with_reducible refine Kd.C_drew ?_))); (case side2 => exact HC0.out); rintro e w' ⟨rfl, ⟨nd, rfl⟩⟩; refine ⟨_, rfl, ?_⟩))
      go_ret
      exact ⟨z100_1, z100_2⟩
    ·rw [if_neg c4] at H
     have c4b0 : decide (x5_1 < a1) = false := decide_eq_false c4
     clear c4
     obtain rfl := Option.some.inj H
     go_wp2
     go_ret
     exact ⟨z100_1, z100_2⟩
 ·rw [if_neg c3] at H
  have c3b0 : ((l0.length : Int) == a1) = false := beq_eq_false_iff_ne.mpr c3
  have c3b1 : ((l0.length : Int) != a1) = true := bne_iff_ne.mpr c3
  obtain rfl := Option.some.inj H
  go_enter Try.func100, Try.ntmps100
  go_wp2
  go_ret
  exact ⟨z100_1, z100_2⟩

end Go.Proofs.Ytefkbmhkhpekjaa.PB

namespace Go.Proofs.Ytefkbmhkhpekjaa.PB
open Go.RowKit Go.Proofs.YtefkbmhkhpekjaaW.PrintWords Go.Proofs.YtefkbmhkhpekjaaW.PrintLast Go.Proofs.YtefkbmhkhpekjaaW.PrintMore
attribute [local go_sem] max2_int min2_int max_two min_two max_three min_three max_four min_four   -- for this text's walks alone
open Go.Proofs.YtefkbmhkhpekjaaMine
set_option linter.unusedVariables false
set_option linter.unusedSimpArgs false

theorem z51_1 {p : Prop} (h : p := by first | rfl | (simp; done) | (simp [*]; done)) : p := h
theorem z51_2 {p : Prop} (h : p := by first | (with_reducible assumption) | assumption) : p := h
theorem z51_3 {p : Prop} (h : p := by first | rfl | (simp [errW_none, errW_some] <;> rfl) | (simp [*, errW_none, errW_some] <;> rfl)) : p := h
theorem z51_4 {p : Prop} (h : p := by repeat (first | (with_reducible first | exact HB.out | apply below_alloc | apply pw_below_drewN | apply below_drew1) | exact HB.out)) : p := h
theorem z51_5 {p : Prop} (h : p := by first | exact Kd.S_nil _ _ _ _ _ | exact Kd.N_nil _ _ _ _ _ | exact Kd.V_nil _ _ _ _ _ | exact Kd.Q_nil _ _ _ _ _ | exact Kd.R_nil _ _ _ _ _) : p := h
theorem z51_6 {p : Prop} (h : p := by repeat (first | (with_reducible first | exact HB.out | apply below_alloc | apply pw_below_drewN | apply below_drew1 | refine below_set ?_ GE1066.out) | exact HB.out)) : p := h
theorem z51_7 {p : Prop} (h : p := by repeat (first | (with_reducible first | exact HB.out | apply below_alloc | apply pw_below_drewN | apply below_drew1 | refine below_set ?_ GE1066.out | refine below_set ?_ GE1067.out) | exact HB.out)) : p := h
theorem z51_8 {p : Prop} (h : p := by repeat (first | (with_reducible first | exact HB.out | apply below_alloc | apply pw_below_drewN | apply below_drew1 | refine below_set ?_ GE1066.out | refine below_set ?_ GE1067.out | refine below_set ?_ GE1071.out) | exact HB.out)) : p := h
theorem z51_9 {p : Prop} (h : p := by (with_reducible repeat (first | refine blk_drewN ?_ _ | refine blk_drew ?_ | refine blk_alloc ?_ _)); refine blk_far ?_ NB1066_1071.out _; (with_reducible repeat (first | refine blk_drewN ?_ _ | refine blk_drew ?_ | refine blk_alloc ?_ _)); exact BK1066.out) : p := h
theorem z51_10 {p : Prop} (h : p := by (with_reducible repeat (first | refine blk_drewN ?_ _ | refine blk_drew ?_ | refine blk_alloc ?_ _)); refine blk_far ?_ NB1067_1071.out _; (with_reducible repeat (first | refine blk_drewN ?_ _ | refine blk_drew ?_ | refine blk_alloc ?_ _)); exact BK1067.out) : p := h
theorem z51_11 {p : Prop} (h : p := by (with_reducible repeat (first | refine blk_drewN ?_ _ | refine blk_drew ?_ | refine blk_alloc ?_ _)); refine blk_put (cs := #[.slice none 0 0]) ?_ 0 _ rfl; (with_reducible repeat (first | refine blk_drewN ?_ _ | refine blk_drew ?_ | refine blk_alloc ?_ _)); exact BK1067.out) : p := h
/-! ### spec_TurnVals: function 51 -/
mutual
def spec_TurnVals.j0 : Nat → List Int → Bool → List (List (S85)) → Option ((List (List (S85))) × Bool)
  | 0, _, _, _ => none
  | k + 1, x1, x23, x1067000 => if x23 = true then (some (([] : List (List (S85))), false)) else (spec_TurnVals.l0 k x1 0 x1067000 ([] : List (List (S85))))
def spec_TurnVals.l0 : Nat → List Int → Int → List (List (S85)) → List (List (S85)) → Option ((List (List (S85))) × Bool)
  | 0, _, _, _, _ => none
  | k + 1, x1, x7, x1067000, x1072000 => if x7 < (x1067000.length : Int) then ((some (([] : List (S85)) : List (S85))).bind fun y1072 => (if 0 ≤ x7 then (if y1072.length + (rd_L7 x1067000 x7).length < 5864062014805 then (spec_TurnVals.l1 k x1 x7 (y1072 ++ (rd_L7 x1067000 x7)) 0 x1067000 x1072000) else (none)) else (none))) else (some (x1072000, true))
def spec_TurnVals.l1 : Nat → List Int → Int → List (S85) → Int → List (List (S85)) → List (List (S85)) → Option ((List (List (S85))) × Bool)
  | 0, _, _, _, _, _, _ => none
  | k + 1, x1, x7, x8, x9, x1067000, x1072000 => if x9 < (x8.length : Int) then (if 0 ≤ x9 then (if 0 ≤ ((rd_T85 x8 x9).f2) then (if ((rd_T85 x8 x9).f2) < (x1.length : Int) then (spec_TurnVals.l1 k x1 x7 (x8.set (x9 : Int).toNat (⟨(rd_T85 x8 x9).f0, (rd_T85 x8 x9).f1, rd x1 ((rd_T85 x8 x9).f2)⟩ : S85)) (wrap64 (x9 + 1)) x1067000 x1072000) else (none)) else (none)) else (none)) else (if x1072000.length < 5864062014805 then (spec_TurnVals.l0 k x1 (wrap64 (x7 + 1)) x1067000 (x1072000 ++ [x8])) else (none))
end
def spec_TurnVals.f (k : Nat) (l0_0 : List (List (S85))) (l1 : List Int) : Option ((List (List (S85))) × Bool) := (spec_ProgOk.f k l0_0).bind fun t1068 => (if t1068 = true then ((spec_l22Row.f k l1 4).bind fun t1069 => (if t1069 = true then (if 0 < (l1.length : Int) then (spec_TurnVals.j0 k l1 ((rd l1 0) != 0) l0_0) else (none)) else (spec_TurnVals.j0 k l1 true l0_0))) else (spec_TurnVals.j0 k l1 true l0_0))
theorem spec_TurnVals.mono_l : ∀ k, (∀ y0 y1 y2, LeO (spec_TurnVals.j0 k y0 y1 y2) (spec_TurnVals.j0 (k + 1) y0 y1 y2)) ∧ (∀ y0 y1 y2 y3, LeO (spec_TurnVals.l0 k y0 y1 y2 y3) (spec_TurnVals.l0 (k + 1) y0 y1 y2 y3)) ∧ (∀ y0 y1 y2 y3 y4 y5, LeO (spec_TurnVals.l1 k y0 y1 y2 y3 y4 y5) (spec_TurnVals.l1 (k + 1) y0 y1 y2 y3 y4 y5))
  | 0 => ⟨fun _ _ _ r h => by simp [spec_TurnVals.j0] at h, fun _ _ _ _ r h => by simp [spec_TurnVals.l0] at h, fun _ _ _ _ _ _ r h => by simp [spec_TurnVals.l1] at h⟩
  | k + 1 => by
    obtain ⟨ih0, ih1, ih2⟩ := spec_TurnVals.mono_l k
    refine ⟨?_, ?_, ?_⟩
    · intro y0 y1 y2
      unfold spec_TurnVals.j0
      repeat' first
      | (with_reducible exact ih0 _ _ _)
      | (with_reducible exact ih1 _ _ _ _)
      | (with_reducible exact ih2 _ _ _ _ _ _)
      | (with_reducible exact spec_ProgOk.mono _ _)
      | (with_reducible exact spec_l22Row.mono _ _ _)
      | (with_reducible exact LeO.refl _)
      | (with_reducible exact LeO.none _)
      | (with_reducible refine LeO.ite ?_ ?_)
      | (with_reducible refine LeO.bind ?_ (fun _ => ?_))
      | exact ih0 _ _ _
      | exact ih1 _ _ _ _
      | exact ih2 _ _ _ _ _ _
      | exact spec_ProgOk.mono _ _
      | exact spec_l22Row.mono _ _ _
      | exact LeO.none _
      | refine LeO.ite ?_ ?_
      | refine LeO.bind ?_ (fun _ => ?_)
    · intro y0 y1 y2 y3
      unfold spec_TurnVals.l0
      repeat' first
      | (with_reducible exact ih0 _ _ _)
      | (with_reducible exact ih1 _ _ _ _)
      | (with_reducible exact ih2 _ _ _ _ _ _)
      | (with_reducible exact spec_ProgOk.mono _ _)
      | (with_reducible exact spec_l22Row.mono _ _ _)
      | (with_reducible exact LeO.refl _)
      | (with_reducible exact LeO.none _)
      | (with_reducible refine LeO.ite ?_ ?_)
      | (with_reducible refine LeO.bind ?_ (fun _ => ?_))
      | exact ih0 _ _ _
      | exact ih1 _ _ _ _
      | exact ih2 _ _ _ _ _ _
      | exact spec_ProgOk.mono _ _
      | exact spec_l22Row.mono _ _ _
      | exact LeO.none _
      | refine LeO.ite ?_ ?_
      | refine LeO.bind ?_ (fun _ => ?_)
    · intro y0 y1 y2 y3 y4 y5
      unfold spec_TurnVals.l1
      repeat' first
      | (with_reducible exact ih0 _ _ _)
      | (with_reducible exact ih1 _ _ _ _)
      | (with_reducible exact ih2 _ _ _ _ _ _)
      | (with_reducible exact spec_ProgOk.mono _ _)
      | (with_reducible exact spec_l22Row.mono _ _ _)
      | (with_reducible exact LeO.refl _)
      | (with_reducible exact LeO.none _)
      | (with_reducible refine LeO.ite ?_ ?_)
      | (with_reducible refine LeO.bind ?_ (fun _ => ?_))
      | exact ih0 _ _ _
      | exact ih1 _ _ _ _
      | exact ih2 _ _ _ _ _ _
      | exact spec_ProgOk.mono _ _
      | exact spec_l22Row.mono _ _ _
      | exact LeO.none _
      | refine LeO.ite ?_ ?_
      | refine LeO.bind ?_ (fun _ => ?_)
theorem spec_TurnVals.mono : ∀ a0 a1 k, LeO (spec_TurnVals.f k a0 a1) (spec_TurnVals.f (k + 1) a0 a1) := by
  intro a0 a1 k
  obtain ⟨ih0, ih1, ih2⟩ := spec_TurnVals.mono_l k
  unfold spec_TurnVals.f
  repeat' first
      | (with_reducible exact ih0 _ _ _)
      | (with_reducible exact ih1 _ _ _ _)
      | (with_reducible exact ih2 _ _ _ _ _ _)
      | (with_reducible exact spec_ProgOk.mono _ _)
      | (with_reducible exact spec_l22Row.mono _ _ _)
      | (with_reducible exact LeO.refl _)
      | (with_reducible exact LeO.none _)
      | (with_reducible refine LeO.ite ?_ ?_)
      | (with_reducible refine LeO.bind ?_ (fun _ => ?_))
      | exact ih0 _ _ _
      | exact ih1 _ _ _ _
      | exact ih2 _ _ _ _ _ _
      | exact spec_ProgOk.mono _ _
      | exact spec_l22Row.mono _ _ _
      | exact LeO.none _
      | refine LeO.ite ?_ ?_
      | refine LeO.bind ?_ (fun _ => ?_)
set_option maxHeartbeats 8000000 in
set_option maxRecDepth 100000 in
theorem spec_TurnVals.calls (k : Nat) (A0_0 : Option Addr) (c0_0 : Nat) (l0_0 : List (List (S85))) (A1 : Option Addr) (c1 : Nat) (l1 : List Int) (r1 : List (List (S85))) (r2 : Bool) (w : World) (hr0_0 : Kd.C (Kd.slice 85 k85) w A0_0 l0_0.length l0_0) (hc0_0 : l0_0.length ≤ c0_0) (hr1 : Kd.C (Kd.int .i64) w A1 l1.length l1) (hc1 : l1.length ≤ c1) (h : spec_TurnVals.f k l0_0 l1 = some (r1, r2)) :
  Calls Try.prog 51 #[.agg #[.slice A0_0 l0_0.length c0_0], .slice A1 l1.length c1] w fun e w' => ∃ v0_ : Value, e = .returned (.tuple #[.agg #[v0_], .bool r2]) ∧ Kd.S (Kd.slice 85 k85) 82 w' w.heap.size (fun _ => True) v0_ r1 ∧ Below w.heap.size w w' := by
 have hu35 := Try.underlying35
 have HR0_0 := am_ hr0_0
 have HC0_0 := am_ hc0_0
 clear hr0_0 hc0_0
 have HR1 := am_ hr1
 have HC1 := am_ hc1
 clear hr1 hc1
 have HB := am_ (Below.refl w.heap.size w)
 have H : ((spec_ProgOk.f k l0_0).bind fun t1068 => (if t1068 = true then ((spec_l22Row.f k l1 4).bind fun t1069 => (if t1069 = true then (if 0 < (l1.length : Int) then (spec_TurnVals.j0 k l1 ((rd l1 0) != 0) l0_0) else (none)) else (spec_TurnVals.j0 k l1 true l0_0))) else (spec_TurnVals.j0 k l1 true l0_0))) = some (r1, r2) := h
 clear h
 have HC3 := am_ H
 clear H
 go_enter Try.func51, Try.ntmps51
 go_upto_region 1 with (first | ((with_reducible refine gate_dst (N := 2) rfl ?_); refine box_event ?hg (N := 2) ?hd (cs := #[.slice A0_0 l0_0.length c0_0]) (t := 35) ?hr ?_; (case hd => rfl); (case hg => rfl); (case hr => first | (go_simp; done) | (go_simp; rfl)); intro gb1066 hg w4 hbox hb; have n0_ := am_ (below_step z51_4 hb); have n1_ := am_ (hbox); have n2_ := am_ (by rw [hg]; exact (below_size z51_4) : w.heap.size ≤ gb1066); have n3_ := am_ (by rw [hg]; exact (below_size z51_4) : w.heap.size ≤ gb1066); clear HB; have HB := n0_; have BK1066 := n1_; have GW1066 := n2_; have GE1066 := n3_; clear n0_ n1_ n2_ n3_; clear hb hbox hg) | ((with_reducible refine gate_dst (N := 4) rfl ?_); refine box_event ?hg (N := 4) ?hd (cs := #[.slice none 0 0]) (t := 35) ?hr ?_; (case hd => rfl); (case hg => rfl); (case hr => first | (go_simp; done) | (go_simp; rfl)); intro gb1067 hg w5 hbox hb; have n0_ := am_ (blk_below (bu BK1066.out) hb); have n1_ := am_ (below_step z51_6 hb); have n2_ := am_ (hbox); have n3_ := am_ (by rw [hg]; exact (below_size z51_6) : w.heap.size ≤ gb1067); have n4_ := am_ (by rw [hg]; exact (below_size z51_6) : w.heap.size ≤ gb1067); have n5_ := am_ (by rw [hg]; exact Nat.ne_of_lt (blk_lt (bu BK1066.out)) : gb1066 ≠ gb1067); have n6_ := am_ (by rw [hg]; exact Nat.ne_of_gt (blk_lt (bu BK1066.out)) : gb1067 ≠ gb1066); clear BK1066 HB; have BK1066 := n0_; have HB := n1_; have BK1067 := n2_; have GW1067 := n3_; have GE1067 := n4_; have NB1066_1067 := n5_; have NB1067_1066 := n6_; clear n0_ n1_ n2_ n3_ n4_ n5_ n6_; clear hb hbox hg))
 (try simp only [Act.put, List.setIfInBounds_toArray, List.set_cons_zero, List.set_cons_succ])
 go_cut [23] (fun v23 wc => ∃ (kq : Nat) (x23_2 : Bool), v23 = .bool x23_2 ∧ Aside0 (spec_TurnVals.j0 kq l1 x23_2 l0_0 = some (r1, r2)) ∧ Aside0 (kq ≤ k) ∧ Aside0 (wc.heap[gb1066]? = some (.cells #[(.slice A0_0 l0_0.length c0_0)] 35 (0, 0))) ∧ Aside0 (wc.heap[gb1067]? = some (.cells #[(.slice none 0 0)] 35 (0, 0))) ∧ Aside0 (Below w.heap.size w wc))
 case first =>
  have H := HC3.out
  clear HC3
  replace H := Option.bind_eq_some_iff.mp H
  obtain ⟨t1068, A60, H⟩ := H
  replace H : (if t1068 = true then ((spec_l22Row.f k l1 4).bind fun t1069 => (if t1069 = true then (if 0 < (l1.length : Int) then (spec_TurnVals.j0 k l1 ((rd l1 0) != 0) l0_0) else (none)) else (spec_TurnVals.j0 k l1 true l0_0))) else (spec_TurnVals.j0 k l1 true l0_0)) = some (r1, r2) := H
  have A6 := am_ A60
  clear A60
  by_cases c7 : t1068 = true
  ·subst c7
   have H1 : ((spec_l22Row.f k l1 4).bind fun t1069 => (if t1069 = true then (if 0 < (l1.length : Int) then (spec_TurnVals.j0 k l1 ((rd l1 0) != 0) l0_0) else (none)) else (spec_TurnVals.j0 k l1 true l0_0))) = some (r1, r2) := by rw [if_pos rfl] at H; exact H
   clear H
   have H := H1
   clear H1
   replace H := Option.bind_eq_some_iff.mp H
   obtain ⟨t1069, A80, H⟩ := H
   replace H : (if t1069 = true then (if 0 < (l1.length : Int) then (spec_TurnVals.j0 k l1 ((rd l1 0) != 0) l0_0) else (none)) else (spec_TurnVals.j0 k l1 true l0_0)) = some (r1, r2) := H
   have A8 := am_ A80
   clear A80
   by_cases c9 : t1069 = true
   ·subst c9
    have H1 : (if 0 < (l1.length : Int) then (spec_TurnVals.j0 k l1 ((rd l1 0) != 0) l0_0) else (none)) = some (r1, r2) := by rw [if_pos rfl] at H; exact H
    clear H
    have H := H1
    clear H1
    by_cases c10 : 0 < (l1.length : Int)
    ·rw [if_pos c10] at H
     have c10b0 : decide (0 < (l1.length : Int)) = true := decide_eq_true c10
     have c10b1 : decide (0 < l1.length) = true := decide_eq_true (by omega)
     clear c10
     (first | rw [c10b0] | (simp only [i64_w, i32_w]; rw [c10b0]) | skip)
     have H' := am_ H
     clear H
     have hnb11 := NB1066_1067.out
     have hnc11 := NB1067_1066.out
     have hcz12_0 : w5.cell? ⟨gb1066, 0, none⟩ = some (.slice A0_0 l0_0.length c0_0) := (blk_cell BK1066.out 0).trans rfl
     have hfz12_0 := blk_frozen BK1066.out 0
     go_wp2_with (first | ((with_reducible refine gate_callee (f := 43) rfl ?_); refine goesL_ (some 11) rfl rfl Try.func43 (by kernel_rfl) rfl #[.agg #[.slice A0_0 l0_0.length c0_0]] rfl (by (try simp only [List.map_toArray, List.map_cons, List.map_nil]); first | done | rfl | (simp only [List.length_drop, List.length_take]; rfl)) ?_; (with_reducible refine (spec_ProgOk.calls k _ _ l0_0 true _ ?side1 ?side2 A6.out).mono ?_); (case side1 => repeat (first | exact (Kd.C_below HR0_0.out HB.out) | (with_reducible refine Kd.C_alloc ?_ _) | (with_reducible refine Kd.C_drewN ?_ _) | (with_reducible refine Kd.C_drew ?_))); (case side2 => exact HC0_0.out); rintro e w13 ⟨rfl, hb⟩; refine ⟨_, rfl, ?_⟩; have n0_ := am_ (blk_below (bu BK1066.out) hb); have n1_ := am_ (blk_below (bu BK1067.out) hb); have n2_ := am_ (below_step z51_7 hb); clear BK1066 BK1067 HB; have BK1066 := n0_; have BK1067 := n1_; have HB := n2_; clear n0_ n1_ n2_; (try clear hb); (try clear hb2); (try clear hk); (try clear hi)) | (go_at_call 100; (with_reducible refine (spec_l22Row.calls k _ _ l1 4 true _ ?side1 ?side2 A8.out).mono ?_); (case side1 => repeat (first | exact (Kd.C_below HR1.out HB.out) | (with_reducible refine Kd.C_alloc ?_ _) | (with_reducible refine Kd.C_drewN ?_ _) | (with_reducible refine Kd.C_drew ?_))); (case side2 => exact HC1.out); rintro e w' ⟨rfl, ⟨nd, rfl⟩⟩; have p1070 : 0 ≤ (0 : Int) := (by omega); have q1070 : 0 < (l1.length : Int) := of_decide_eq_true z51_2; obtain ⟨ad1070, e1070, hx1070_0⟩ := Kd.at_int HR1.out 0 p1070 q1070; cases e1070; have qi1070 : (0 < l1.length) = True := eq_true (by omega); (try rw [show ((0 : Int)).toNat = 0 from rfl] at hx1070_0); (try rw [Addr.add_zero'] at hx1070_0); replace hx1070_0 := (HB.out.cell (World.block_lt_of_cell? w _ hx1070_0)).trans hx1070_0; replace p1070 := eq_true p1070; replace q1070 := eq_true q1070))
     go_meet
     case rel => exact ⟨_, (((rd l1 0) != 0)), z51_1, H', ⟨by first | omega | exact Nat.le_refl _⟩, ⟨bu BK1066.out⟩, ⟨bu BK1067.out⟩, ⟨z51_7⟩⟩
    ·rw [if_neg c10] at H
     exact absurd H (by simp)
   ·replace c9 := Bool.eq_false_iff.mpr c9
    subst c9
    have H1 : (spec_TurnVals.j0 k l1 true l0_0) = some (r1, r2) := by rw [if_neg (show ¬ (false = true) by decide)] at H; exact H
    clear H
    have H := H1
    clear H1
    have H' := am_ H
    clear H
    have hnb14 := NB1066_1067.out
    have hnc14 := NB1067_1066.out
    have hcz15_0 : w5.cell? ⟨gb1066, 0, none⟩ = some (.slice A0_0 l0_0.length c0_0) := (blk_cell BK1066.out 0).trans rfl
    have hfz15_0 := blk_frozen BK1066.out 0
    go_wp2_with (first | ((with_reducible refine gate_callee (f := 43) rfl ?_); refine goesL_ (some 11) rfl rfl Try.func43 (by kernel_rfl) rfl #[.agg #[.slice A0_0 l0_0.length c0_0]] rfl (by (try simp only [List.map_toArray, List.map_cons, List.map_nil]); first | done | rfl | (simp only [List.length_drop, List.length_take]; rfl)) ?_; (with_reducible refine (spec_ProgOk.calls k _ _ l0_0 true _ ?side1 ?side2 A6.out).mono ?_); (case side1 => repeat (first | exact (Kd.C_below HR0_0.out HB.out) | (with_reducible refine Kd.C_alloc ?_ _) | (with_reducible refine Kd.C_drewN ?_ _) | (with_reducible refine Kd.C_drew ?_))); (case side2 => exact HC0_0.out); rintro e w16 ⟨rfl, hb⟩; refine ⟨_, rfl, ?_⟩; have n0_ := am_ (blk_below (bu BK1066.out) hb); have n1_ := am_ (blk_below (bu BK1067.out) hb); have n2_ := am_ (below_step z51_7 hb); clear BK1066 BK1067 HB; have BK1066 := n0_; have BK1067 := n1_; have HB := n2_; clear n0_ n1_ n2_; (try clear hb); (try clear hb2); (try clear hk); (try clear hi)) | (go_at_call 100; (with_reducible refine (spec_l22Row.calls k _ _ l1 4 false _ ?side1 ?side2 A8.out).mono ?_); (case side1 => repeat (first | exact (Kd.C_below HR1.out HB.out) | (with_reducible refine Kd.C_alloc ?_ _) | (with_reducible refine Kd.C_drewN ?_ _) | (with_reducible refine Kd.C_drew ?_))); (case side2 => exact HC1.out); rintro e w' ⟨rfl, ⟨nd, rfl⟩⟩))
    go_meet
    case rel => exact ⟨_, (true), z51_1, H', ⟨by first | omega | exact Nat.le_refl _⟩, ⟨bu BK1066.out⟩, ⟨bu BK1067.out⟩, ⟨z51_7⟩⟩
  ·replace c7 := Bool.eq_false_iff.mpr c7
   subst c7
   have H1 : (spec_TurnVals.j0 k l1 true l0_0) = some (r1, r2) := by rw [if_neg (show ¬ (false = true) by decide)] at H; exact H
   clear H
   have H := H1
   clear H1
   have H' := am_ H
   clear H
   have hnb17 := NB1066_1067.out
   have hnc17 := NB1067_1066.out
   have hcz18_0 : w5.cell? ⟨gb1066, 0, none⟩ = some (.slice A0_0 l0_0.length c0_0) := (blk_cell BK1066.out 0).trans rfl
   have hfz18_0 := blk_frozen BK1066.out 0
   go_wp2_with (first | ((with_reducible refine gate_callee (f := 43) rfl ?_); refine goesL_ (some 11) rfl rfl Try.func43 (by kernel_rfl) rfl #[.agg #[.slice A0_0 l0_0.length c0_0]] rfl (by (try simp only [List.map_toArray, List.map_cons, List.map_nil]); first | done | rfl | (simp only [List.length_drop, List.length_take]; rfl)) ?_; (with_reducible refine (spec_ProgOk.calls k _ _ l0_0 false _ ?side1 ?side2 A6.out).mono ?_); (case side1 => repeat (first | exact (Kd.C_below HR0_0.out HB.out) | (with_reducible refine Kd.C_alloc ?_ _) | (with_reducible refine Kd.C_drewN ?_ _) | (with_reducible refine Kd.C_drew ?_))); (case side2 => exact HC0_0.out); rintro e w19 ⟨rfl, hb⟩; refine ⟨_, rfl, ?_⟩; have n0_ := am_ (blk_below (bu BK1066.out) hb); have n1_ := am_ (blk_below (bu BK1067.out) hb); have n2_ := am_ (below_step z51_7 hb); clear BK1066 BK1067 HB; have BK1066 := n0_; have BK1067 := n1_; have HB := n2_; clear n0_ n1_ n2_; (try clear hb); (try clear hb2); (try clear hk); (try clear hi)))
   go_meet
   case rel => exact ⟨_, (true), z51_1, H', ⟨by first | omega | exact Nat.le_refl _⟩, ⟨bu BK1066.out⟩, ⟨bu BK1067.out⟩, ⟨z51_7⟩⟩
 case rest =>
  clear HC3
  obtain ⟨kq, x23_2, rfl, HA, HJ2, BK1066, BK1067, HB⟩ := hcut
  cases kq with
  | zero => exact absurd HA.out (by simp [spec_TurnVals.j0])
  | succ kj2 =>
   have H := HA.out
   clear HA
   simp only [spec_TurnVals.j0] at H
   by_cases c20 : x23_2 = true
   ·subst c20
    have H1 : (some (([] : List (List (S85))), false)) = some (r1, r2) := by rw [if_pos rfl] at H; exact H
    clear H
    have H := H1
    clear H1
    simp only [Option.some.injEq, Prod.mk.injEq] at H
    obtain ⟨rfl, rfl⟩ := H
    have hnb21 := NB1067_1066.out
    have hnc21 := NB1066_1067.out
    have hcz22_0 : wc.cell? ⟨gb1067, 0, none⟩ = some (.slice none 0 0) := (blk_cell BK1067.out 0).trans rfl
    have hfz22_0 := blk_frozen BK1067.out 0
    go_wp2
    refine bodyPost_ret (results_ct rfl _ _ gb1067 35 #[.slice none 0 0] (0, 0) _ rfl z51_11 Try.underlying35 rfl (by kernel_rfl)) rfl ?_
    exact ⟨_, z51_3, z51_5, z51_7⟩
   ·replace c20 := Bool.eq_false_iff.mpr c20
    subst c20
    have H1 : (spec_TurnVals.l0 kj2 l1 0 l0_0 ([] : List (List (S85)))) = some (r1, r2) := by rw [if_neg (show ¬ (false = true) by decide)] at H; exact H
    clear H
    have H := H1
    clear H1
    have H' := am_ H
    clear H
    go_wp2_with (first | ((with_reducible refine gate_dst (N := 6) rfl ?_); refine box_event ?hg (N := 6) ?hd (cs := #[.slice none 0 0]) (t := 35) ?hr ?_; (case hd => rfl); (case hg => rfl); (case hr => first | (go_simp; done) | (go_simp; rfl)); intro gb1071 hg w23 hbox hb; have n0_ := am_ (blk_below (bu BK1066.out) hb); have n1_ := am_ (blk_below (bu BK1067.out) hb); have n2_ := am_ (below_step z51_7 hb); have n3_ := am_ (hbox); have n4_ := am_ (by rw [hg]; exact (below_size z51_7) : w.heap.size ≤ gb1071); have n5_ := am_ (by rw [hg]; exact (below_size z51_7) : w.heap.size ≤ gb1071); have n6_ := am_ (by rw [hg]; exact Nat.ne_of_lt (blk_lt (bu BK1066.out)) : gb1066 ≠ gb1071); have n7_ := am_ (by rw [hg]; exact Nat.ne_of_gt (blk_lt (bu BK1066.out)) : gb1071 ≠ gb1066); have n8_ := am_ (by rw [hg]; exact Nat.ne_of_lt (blk_lt (bu BK1067.out)) : gb1067 ≠ gb1071); have n9_ := am_ (by rw [hg]; exact Nat.ne_of_gt (blk_lt (bu BK1067.out)) : gb1071 ≠ gb1067); clear BK1066 BK1067 HB; have BK1066 := n0_; have BK1067 := n1_; have HB := n2_; have BK1071 := n3_; have GW1071 := n4_; have GE1071 := n5_; have NB1066_1071 := n6_; have NB1071_1066 := n7_; have NB1067_1071 := n8_; have NB1071_1067 := n9_; clear n0_ n1_ n2_ n3_ n4_ n5_ n6_ n7_ n8_ n9_; clear hb hbox hg; have hnb24 := NB1071_1066.out; have hnc24 := NB1066_1071.out; have hnb25 := NB1071_1067.out; have hnc25 := NB1067_1071.out; have hcz26_0 : w23.cell? ⟨gb1071, 0, none⟩ = some (.slice none 0 0) := (blk_cell BK1071.out 0).trans rfl; have hfz26_0 := blk_frozen BK1071.out 0))
    go_loopg [7] kj2 (fun kq v7 w' => ∃ (x7_2 : Int) (x1072000_2 : List (List (S85))) (u1072000 : Value), v7 = .int .i64 x7_2 ∧ Aside0 (spec_TurnVals.l0 kq l1 x7_2 l0_0 x1072000_2 = some (r1, r2)) ∧ Aside0 (kq ≤ kj2) ∧ Aside0 (Kd.S (Kd.slice 85 k85) 82 w' w.heap.size (fun _ => True) u1072000 x1072000_2) ∧ Aside0 (w'.heap[gb1066]? = some (.cells #[(.slice A0_0 l0_0.length c0_0)] 35 (0, 0))) ∧ Aside0 (w'.heap[gb1067]? = some (.cells #[(.slice none 0 0)] 35 (0, 0))) ∧ Aside0 (w'.heap[gb1071]? = some (.cells #[u1072000] 35 (0, 0))) ∧ Aside0 (Below w.heap.size w w'))
    case atStart => exact ⟨(0), (([] : List (List (S85)))), (.slice none 0 0), z51_1, H', ⟨Nat.le_refl _⟩, ⟨z51_5⟩, ⟨z51_9⟩, ⟨z51_10⟩, ⟨by (with_reducible repeat (first | refine blk_drewN ?_ _ | refine blk_drew ?_ | refine blk_alloc ?_ _)); refine blk_put (cs := #[.slice none 0 0]) ?_ 0 _ rfl; (with_reducible repeat (first | refine blk_drewN ?_ _ | refine blk_drew ?_ | refine blk_alloc ?_ _)); exact BK1071.out⟩, ⟨z51_8⟩⟩
    case round =>
     clear H'
     obtain ⟨x7_2, x1072000_2, u1072000, rfl, HA, HK2, HO_1072000, BK1066, BK1067, BK1071, HB⟩ := hrel
     cases gk with
     | zero => exact absurd HA.out (by simp [spec_TurnVals.l0])
     | succ k2 =>
      have H := HA.out
      clear HA
      simp only [spec_TurnVals.l0] at H
      by_cases c27 : x7_2 < (l0_0.length : Int)
      ·rw [if_pos c27] at H
       have c27b0 : decide (x7_2 < (l0_0.length : Int)) = true := decide_eq_true c27
       clear c27
       obtain ⟨y1072, hy1072⟩ : ∃ y_ : List (S85), y_ = (([] : List (S85))) := ⟨_, rfl⟩
       replace H : (if 0 ≤ x7_2 then (if y1072.length + (rd_L7 l0_0 x7_2).length < 5864062014805 then (spec_TurnVals.l1 k2 l1 x7_2 (y1072 ++ (rd_L7 l0_0 x7_2)) 0 l0_0 x1072000_2) else (none)) else (none)) = some (r1, r2) := by first | (rw [hy1072]; with_reducible exact H) | (have H2_ := (Option.bind_some _ _).symm.trans H; rw [hy1072]; with_reducible exact H2_) | (have H2_ := (Option.bind_some _ _).symm.trans H; with_reducible exact H2_) | with_reducible exact H | (rw [hy1072]; exact H) | exact H
       have Ny1072 := am_ hy1072
       clear hy1072
       by_cases c28 : 0 ≤ x7_2
       ·rw [if_pos c28] at H
        have c28b0 : decide (0 ≤ x7_2) = true := decide_eq_true c28
        clear c28
        by_cases c29 : y1072.length + (rd_L7 l0_0 x7_2).length < 5864062014805
        ·rw [if_pos c29] at H
         have LMc29 := am_ c29
         clear c29
         obtain ⟨y1076, hy1076⟩ : ∃ y_ : List (S85), y_ = (y1072 ++ (rd_L7 l0_0 x7_2)) := ⟨_, rfl⟩
         replace H : (spec_TurnVals.l1 k2 l1 x7_2 y1076 0 l0_0 x1072000_2) = some (r1, r2) := by first | (rw [hy1076]; with_reducible exact H) | (have H2_ := (Option.bind_some _ _).symm.trans H; rw [hy1076]; with_reducible exact H2_) | (have H2_ := (Option.bind_some _ _).symm.trans H; with_reducible exact H2_) | with_reducible exact H | (rw [hy1076]; exact H) | exact H
         have Ny1076 := am_ hy1076
         clear hy1076
         have H' := am_ H
         clear H
         have hnb30 := NB1066_1067.out
         have hnc30 := NB1067_1066.out
         have hnb31 := NB1066_1071.out
         have hnc31 := NB1071_1066.out
         have hcz32_0 : wr.cell? ⟨gb1066, 0, none⟩ = some (.slice A0_0 l0_0.length c0_0) := (blk_cell BK1066.out 0).trans rfl
         have hfz32_0 := blk_frozen BK1066.out 0
         go_wp2_with (first | ((with_reducible refine gate_dst (N := 33) rfl ?_); refine Kd.R_lit k85 _ 85 ?hg (N := 33) ?hd (xs := ([] : List (S85))) (inner := []) (ok := fun _ => True) (okp := fun _ => True) ?hr ?hp (fun _ hk => hk) trivial (Below.refl _ _) (Nat.le_refl _) (by simp) ?_; (case hd => rfl); (case hg => rfl); (case hr => first | (go_simp; done) | (go_simp; rfl)); (case hp => exact (Reps.none _ _)); intro v1073 w33 ho34 hb hg_ hnew_; clear hg_ hnew_; (first | rw [← Ny1072.out] at ho34 | (simp only [Int.reduceToNat] at ho34; rw [← Ny1072.out] at ho34)); have n0_ := am_ (Kd.S_elder' (su HO_1072000.out) (Kd.R_base ho34) hb); have n1_ := am_ (Kd.R_lower ho34 (below_size z51_8)); have n2_ := am_ (blk_below (bu BK1066.out) hb); have n3_ := am_ (blk_below (bu BK1067.out) hb); have n4_ := am_ (blk_below (bu BK1071.out) hb); have n5_ := am_ (below_step z51_8 hb); clear HO_1072000 BK1066 BK1067 BK1071 HB; have HO_1072000 := n0_; have HO1074 := n1_; have BK1066 := n2_; have BK1067 := n3_; have BK1071 := n4_; have HB := n5_; clear n0_ n1_ n2_ n3_ n4_ n5_; clear hb ho34; have hcz35_0 : w33.cell? ⟨gb1066, 0, none⟩ = some (.slice A0_0 l0_0.length c0_0) := (blk_cell BK1066.out 0).trans rfl; have hfz35_0 := blk_frozen BK1066.out 0; have p1075 : 0 ≤ (x7_2 : Int) := of_decide_eq_true z51_2; have q1075 : x7_2 < (l0_0.length : Int) := of_decide_eq_true z51_2; obtain ⟨ad1075, A1075_0, c1075_0, e1075, hx1075_0, hl1075_0, hi1075_0⟩ := at_L7 HR0_0.out x7_2 p1075 q1075; cases e1075; replace hx1075_0 := (HB.out.cell (World.block_lt_of_cell? w _ hx1075_0)).trans hx1075_0; have HR1075_0 := am_ hi1075_0; have HC1075_0 := am_ hl1075_0; clear hi1075_0 hl1075_0; replace p1075 := eq_true p1075; replace q1075 := eq_true q1075) | ((with_reducible refine gate_builtin (b := .append) (xs := #[.tmp 33, .tmp 38]) rfl ?_); at_builtin; refine Kd.R_append_rows k85 (w0 := w) w.heap.size rfl (.tmp 33) (.tmp 38) 82 85 (.agg #[(.int .i64 0), (.int .i64 0), (.int .i64 0)]) 24 rfl Try.underlying82 info85 rfl (by decide) (by omega) v1073 y1072 (rd_L7 l0_0 x7_2) _ _ _ (fun _ => True) (fun _ => False) rfl rfl ?aO ?aR (fun _ _ h => h) (fun _ h => h.elim) ?aF ?aB ?aS ?aL ?_; (case aR => repeat (first | exact (Kd.C_below HR1075_0.out HB.out) | (with_reducible refine Kd.C_alloc ?_ _) | (with_reducible refine Kd.C_drewN ?_ _) | (with_reducible refine Kd.C_drew ?_))); (case aB => exact z51_8); (case aF => exact (fun _ _ => trivial)); (case aO => exact (ru HO1074.out)); (case aS => exact (below_size z51_8)); (case aL => have := LMc29.out; omega); intro v1077 w36 ho hb hg hat; rw [← Ny1076.out] at ho; have n0_ := am_ (Kd.S_after (ok := (fun _ => True)) (su HO_1072000.out) hg hat); have n1_ := am_ (blk_grown (bu BK1066.out) hg (Kd.R_ne HO1074.out BK1066.out (by decide))); have n2_ := am_ (blk_grown (bu BK1067.out) hg (Kd.R_ne HO1074.out BK1067.out (by decide))); have n3_ := am_ (blk_grown (bu BK1071.out) hg (Kd.R_ne HO1074.out BK1071.out (by decide))); have n4_ := am_ (hb); have n5_ := am_ (ho); clear HO_1072000 BK1066 BK1067 BK1071 HB HO1074; have HO_1072000 := n0_; have BK1066 := n1_; have BK1067 := n2_; have BK1071 := n3_; have HB := n4_; have HO1078 := n5_; clear n0_ n1_ n2_ n3_ n4_ n5_; clear ho hb hg hat))
         go_loopg [9] k2 (fun kq v9 w' => ∃ (x8_3 : List (S85)) (x9_3 : Int), v9 = .int .i64 x9_3 ∧ Aside0 (spec_TurnVals.l1 kq l1 x7_2 x8_3 x9_3 l0_0 x1072000_2 = some (r1, r2)) ∧ Aside0 (kq ≤ k2) ∧ Aside0 (Kd.R k85 85 w' w.heap.size (fun _ => True) v1077 x8_3) ∧ Aside0 (Kd.S (Kd.slice 85 k85) 82 w' w.heap.size (fun k_ => some k_ ≠ (v1077 : Value).ownBlock) u1072000 x1072000_2) ∧ Aside0 (w'.heap[gb1066]? = some (.cells #[(.slice (some ad1075) l0_0.length c0_0)] 35 (0, 0))) ∧ Aside0 (w'.heap[gb1067]? = some (.cells #[(.slice none 0 0)] 35 (0, 0))) ∧ Aside0 (w'.heap[gb1071]? = some (.cells #[u1072000] 35 (0, 0))) ∧ Aside0 (Below w.heap.size w w'))
         case atStart => exact ⟨(y1076), (0), z51_1, H', ⟨Nat.le_refl _⟩, ⟨ru HO1078.out⟩, ⟨su (Kd.S_mono HO_1072000.out (fun _ hk => hk.2))⟩, ⟨bu BK1066.out⟩, ⟨bu BK1067.out⟩, ⟨bu BK1071.out⟩, ⟨z51_8⟩⟩
         case round =>
          clear H'
          obtain ⟨x8_3, x9_3, rfl, HA, HK3, HO_8, HO_1072000, BK1066, BK1067, BK1071, HB⟩ := hrel
          cases gk with
          | zero => exact absurd HA.out (by simp [spec_TurnVals.l1])
          | succ k3 =>
           have H := HA.out
           clear HA
           simp only [spec_TurnVals.l1] at H
           by_cases c37 : x9_3 < (x8_3.length : Int)
           ·rw [if_pos c37] at H
            have c37b0 : decide (x9_3 < (x8_3.length : Int)) = true := decide_eq_true c37
            clear c37
            by_cases c38 : 0 ≤ x9_3
            ·rw [if_pos c38] at H
             have c38b0 : decide (0 ≤ x9_3) = true := decide_eq_true c38
             clear c38
             by_cases c39 : 0 ≤ ((rd_T85 x8_3 x9_3).f2)
             ·rw [if_pos c39] at H
              have c39b0 : decide (0 ≤ ((rd_T85 x8_3 x9_3).f2)) = true := decide_eq_true c39
              clear c39
              by_cases c40 : ((rd_T85 x8_3 x9_3).f2) < (l1.length : Int)
              ·rw [if_pos c40] at H
               have c40b0 : decide (((rd_T85 x8_3 x9_3).f2) < (l1.length : Int)) = true := decide_eq_true c40
               clear c40
               obtain ⟨y1081, hy1081⟩ : ∃ y_ : List (S85), y_ = (x8_3.set (x9_3 : Int).toNat (⟨(rd_T85 x8_3 x9_3).f0, (rd_T85 x8_3 x9_3).f1, rd l1 ((rd_T85 x8_3 x9_3).f2)⟩ : S85)) := ⟨_, rfl⟩
               replace H : (spec_TurnVals.l1 k3 l1 x7_2 y1081 (wrap64 (x9_3 + 1)) l0_0 x1072000_2) = some (r1, r2) := by first | (rw [hy1081]; with_reducible exact H) | (have H2_ := (Option.bind_some _ _).symm.trans H; rw [hy1081]; with_reducible exact H2_) | (have H2_ := (Option.bind_some _ _).symm.trans H; with_reducible exact H2_) | with_reducible exact H | (rw [hy1081]; exact H) | exact H
               have Ny1081 := am_ hy1081
               clear hy1081
               have H' := am_ H
               clear H
               obtain ⟨Ao42, co42, eo42⟩ := Kd.R_slice HO_8.out
               subst eo42
               have p1079 : 0 ≤ (x9_3 : Int) := of_decide_eq_true z51_2
               have q1079 : x9_3 < (x8_3.length : Int) := of_decide_eq_true z51_2
               obtain ⟨ad1079, e1079, hx1079_0, hx1079_1, hx1079_2⟩ := at_T85 (Kd.R_reads' HO_8.out).2.2 x9_3 p1079 q1079
               cases e1079
               replace p1079 := eq_true p1079
               replace q1079 := eq_true q1079
               have p1080 : 0 ≤ (((rd_T85 x8_3 x9_3).f2) : Int) := of_decide_eq_true z51_2
               have q1080 : ((rd_T85 x8_3 x9_3).f2) < (l1.length : Int) := of_decide_eq_true z51_2
               obtain ⟨ad1080, e1080, hx1080_0⟩ := Kd.at_int HR1.out ((rd_T85 x8_3 x9_3).f2) p1080 q1080
               cases e1080
               replace hx1080_0 := (HB.out.cell (World.block_lt_of_cell? w _ hx1080_0)).trans hx1080_0
               replace p1080 := eq_true p1080
               replace q1080 := eq_true q1080
               have p41 : 0 ≤ (x9_3 : Int) := of_decide_eq_true z51_2
               have q41 : (x9_3 : Int) < ((x8_3.length : Int) : Int) := of_decide_eq_true z51_2
               obtain ⟨go41, co41, eo41, gb41, gl41, cl41, HG41⟩ := Kd.R_form HO_8.out (by omega)
               (first | cases eo41 | (injection eo41 with ea_ en_ ec_; (first | subst ea_ | (injection ea_ with ea_; subst ea_)); subst ec_; clear en_))
               have GB41 := am_ gb41
               have GG41 := am_ HG41
               clear gb41 gl41 HG41
               (first | simp only [add_plain] at hx1079_0 | skip)
               (first | simp only [add_plain] at hx1079_1 | skip)
               (first | simp only [add_plain] at hx1079_2 | skip)
               obtain ⟨ce41, hcl41, hM41, hcc41, hfr41⟩ := Kd.R_elem HO_8.out z85 (x9_3 : Int) p41 q41
               obtain rfl := k85_openM hM41
               have hx41_0 : wr.cell? ⟨go41, (x9_3 : Int).toNat * 3, none⟩ = some (.int .i64 ((rd_T85 x8_3 x9_3).f0)) := hcc41 0 _ rfl
               have hx41_1 : wr.cell? ⟨go41, (x9_3 : Int).toNat * 3 + 1, none⟩ = some (.int .i64 ((rd_T85 x8_3 x9_3).f1)) := hcc41 1 _ rfl
               have hx41_2 : wr.cell? ⟨go41, (x9_3 : Int).toNat * 3 + 2, none⟩ = some (.int .i64 ((rd_T85 x8_3 x9_3).f2)) := hcc41 2 _ rfl
               have hf41_0 : wr.frozen? ⟨go41, (x9_3 : Int).toNat * 3, none⟩ = false := hfr41 0
               have hf41_1 : wr.frozen? ⟨go41, (x9_3 : Int).toNat * 3 + 1, none⟩ = false := hfr41 1
               have hf41_2 : wr.frozen? ⟨go41, (x9_3 : Int).toNat * 3 + 2, none⟩ = false := hfr41 2
               clear hcl41 hcc41 hfr41 hM41
               replace p41 := eq_true p41
               replace q41 := eq_true q41
               have HX43 := am_ (show Kd.R k85 85 wr w.heap.size (fun _ => True) (.slice (some ⟨go41, 0, none⟩) x8_3.length co42) x8_3 from (ru HO_8.out))
               obtain ⟨ce43, hcl43, hM43, hcc43, hfr43⟩ := Kd.R_elem HX43.out z85 (x9_3 : Int) (of_decide_eq_true z51_2) (by have h_ : (x9_3 : Int) < ((x8_3.length : Int) : Int) := of_decide_eq_true z51_2; first | exact h_ | (have e_ := (Kd.R_reads' HO_8.out).1; omega) | simpa using h_)
               obtain rfl := k85_openM hM43
               have HP43 := Kd.R_seg HX43.out (x9_3 : Int) (of_decide_eq_true z51_2) (by have h_ : (x9_3 : Int) < ((x8_3.length : Int) : Int) := of_decide_eq_true z51_2; first | exact h_ | (have e_ := (Kd.R_reads' HO_8.out).1; omega) | simpa using h_) (seg := [.int .i64 (rd l1 ((rd_T85 x8_3 x9_3).f2))]) (j := 2) hcl43 hcc43 (show 3 ≤ 3 from by decide) (x' := (⟨(rd_T85 x8_3 x9_3).f0, (rd_T85 x8_3 x9_3).f1, rd l1 ((rd_T85 x8_3 x9_3).f2)⟩ : S85)) (k85_mkM _ _ _ (⟨(rd_T85 x8_3 x9_3).f0, (rd_T85 x8_3 x9_3).f1, rd l1 ((rd_T85 x8_3 x9_3).f2)⟩ : S85) ) (fun _ hk => hk)
               have hx43_2 := hcc43 2 _ rfl
               (try simp only [show (k85).sz = 3 from rfl, Nat.mul_one, Nat.add_zero] at hx43_2)
               have hf43_2 := hfr43 2
               (try simp only [show (k85).sz = 3 from rfl, Nat.mul_one, Nat.add_zero] at hf43_2)
               clear hcl43 hcc43 hfr43 hM43
               go_wp2_with (first | ((with_reducible refine gate_store (t := 3) (p := 57) rfl ?_); refine store_event (t := 3) (p := 57) (v := ?vo_w44) (w1 := (wr.setCell ⟨go41, (x9_3 : Int).toNat * 3 + 2, none⟩ (.int .i64 (rd l1 ((rd_T85 x8_3 x9_3).f2))))) ?hg ?ho ?hn ?hr ?_; (case ho => rfl); (case hg => rfl); (case hn => rfl); (case hr => first | (go_simp; done) | (go_simp; rfl)); intro w44 hw; have hg : wr.grownBy w44 (some go41) := (by rw [hw]; exact HP43.2); have hp_ : Kd.R k85 85 w44 w.heap.size (fun _ => True) (.slice (some ⟨go41, 0, none⟩) x8_3.length co42) y1081 := (by rw [hw, Ny1081.out]; exact HP43.1); clear HP43; have n0_ := am_ (hp_); have n1_ := am_ (Kd.S_after (v := (.slice (some ⟨go41, 0, none⟩) x8_3.length co42)) (v1 := (.slice (some ⟨go41, 0, none⟩) x8_3.length co42)) (ok := (fun _ => True)) (su (Kd.S_mono HO_1072000.out (fun _ hk => ⟨trivial, hk⟩))) hg (.inl rfl)); have n2_ := am_ (blk_grown (bu BK1066.out) hg (Kd.R_ne HO_8.out BK1066.out (by decide))); have n3_ := am_ (blk_grown (bu BK1067.out) hg (Kd.R_ne HO_8.out BK1067.out (by decide))); have n4_ := am_ (blk_grown (bu BK1071.out) hg (Kd.R_ne HO_8.out BK1071.out (by decide))); have n5_ := am_ (by rw [hw]; exact below_set (HB.out) GB41.out : Below w.heap.size w w44); clear HO_8 HO_1072000 BK1066 BK1067 BK1071 HB; have HO_8 := n0_; have HO_1072000 := n1_; have BK1066 := n2_; have BK1067 := n3_; have BK1071 := n4_; have HB := n5_; clear n0_ n1_ n2_ n3_ n4_ n5_; clear hg hw hp_))
               go_roundg k3
               case measure => have := HJ2.out; have := HK2.out; have := HK3.out; omega
               case rel => exact ⟨(y1081), (wrap64 (x9_3 + 1)), z51_1, H', ⟨by have := HJ2.out; have := HK2.out; have := HK3.out; omega⟩, ⟨ru HO_8.out⟩, ⟨su (Kd.S_mono HO_1072000.out (fun _ hk => hk.2))⟩, ⟨bu BK1066.out⟩, ⟨bu BK1067.out⟩, ⟨bu BK1071.out⟩, ⟨z51_8⟩⟩
              ·rw [if_neg c40] at H
               exact absurd H (by simp)
             ·rw [if_neg c39] at H
              exact absurd H (by simp)
            ·rw [if_neg c38] at H
             exact absurd H (by simp)
           ·rw [if_neg c37] at H
            have c37b0 : decide (x9_3 < (x8_3.length : Int)) = false := decide_eq_false c37
            clear c37
            by_cases c45 : x1072000_2.length < 5864062014805
            ·rw [if_pos c45] at H
             have LMc45 := am_ c45
             clear c45
             obtain ⟨y1082, hy1082⟩ : ∃ y_ : List (List (S85)), y_ = (x1072000_2 ++ [x8_3]) := ⟨_, rfl⟩
             replace H : (spec_TurnVals.l0 k3 l1 (wrap64 (x7_2 + 1)) l0_0 y1082) = some (r1, r2) := by first | (rw [hy1082]; with_reducible exact H) | (have H2_ := (Option.bind_some _ _).symm.trans H; rw [hy1082]; with_reducible exact H2_) | (have H2_ := (Option.bind_some _ _).symm.trans H; with_reducible exact H2_) | with_reducible exact H | (rw [hy1082]; exact H) | exact H
             have Ny1082 := am_ hy1082
             clear hy1082
             have H' := am_ H
             clear H
             obtain ⟨Ao46, co46, eo46⟩ := Kd.R_slice HO_8.out
             subst eo46
             have hnb47 := NB1071_1066.out
             have hnc47 := NB1066_1071.out
             have hnb48 := NB1071_1067.out
             have hnc48 := NB1067_1071.out
             have hcz49_0 : wr.cell? ⟨gb1071, 0, none⟩ = some (u1072000) := (blk_cell BK1071.out 0).trans rfl
             have hfz49_0 := blk_frozen BK1071.out 0
             go_wp2_with (first | ((with_reducible refine gate_builtin (b := .append) (xs := #[.tmp 59, .tmp 61]) rfl ?_); at_builtin; refine Kd.S_append (Kd.slice 85 k85) (w0 := w) w.heap.size rfl (.tmp 59) (.tmp 61) 33 82 (.slice none 0 0) 24 rfl Try.underlying33 info82 rfl (by decide) (by omega) u1072000 x1072000_2 x8_3 [.slice Ao46 x8_3.length co46] (fun _ => True) (fun k_ => some k_ = (.slice Ao46 x8_3.length co46 : Value).ownBlock) rfl rfl ?aP (fun k_ hk_ => ((Kd.R_mono (ok' := fun k_ => ((fun _ => True)) k_ ∧ some k_ ≠ (u1072000 : Value).ownBlock) (Kd.R_apart' (HO_8.out) (Kd.S_typed HO_1072000.out) (by decide)) (fun k_ hk => ⟨trivial, hk.2⟩))).1 k_ hk_.symm) ?aF ?aO ?aB ?aS ?aL ?_; (case aP => exact Kd.M_row (Kd.R_mono (Kd.R_tight rfl (Kd.R_mono (ok' := fun k_ => ((fun _ => True)) k_ ∧ some k_ ≠ (u1072000 : Value).ownBlock) (Kd.R_apart' (HO_8.out) (Kd.S_typed HO_1072000.out) (by decide)) (fun k_ hk => ⟨trivial, hk.2⟩))) (fun _ h_ => h_))); (case aB => exact z51_8); (case aF => exact (fun _ _ => trivial)); (case aO => exact (su (Kd.S_mono HO_1072000.out (fun k_ hk => ⟨trivial, fun e_ => hk e_⟩)))); (case aS => exact (below_size z51_8)); (case aL => have := LMc45.out; omega); intro v1083 w50 ho hb hg hat; rw [← Ny1082.out] at ho; have n0_ := am_ (blk_grown (bu BK1066.out) hg (Kd.S_ne HO_1072000.out BK1066.out (by decide))); have n1_ := am_ (blk_grown (bu BK1067.out) hg (Kd.S_ne HO_1072000.out BK1067.out (by decide))); have n2_ := am_ (blk_grown (bu BK1071.out) hg (Kd.S_ne HO_1072000.out BK1071.out (by decide))); have n3_ := am_ (hb); have n4_ := am_ (ho); clear BK1066 BK1067 BK1071 HB HO_1072000 HO_8; have BK1066 := n0_; have BK1067 := n1_; have BK1071 := n2_; have HB := n3_; have HO1084 := n4_; clear n0_ n1_ n2_ n3_ n4_; clear ho hb hg hat; obtain ⟨Ao51, co51, eo51⟩ := Kd.S_slice HO1084.out; subst eo51; have hcz52_0 : w50.cell? ⟨gb1071, 0, none⟩ = some (u1072000) := (blk_cell BK1071.out 0).trans rfl; have hfz52_0 := blk_frozen BK1071.out 0))
             go_roundg k3
             case measure => have := HJ2.out; have := HK2.out; have := HK3.out; omega
             case rel => exact ⟨(wrap64 (x7_2 + 1)), (y1082), (.slice Ao51 y1082.length co51), z51_1, H', ⟨by have := HJ2.out; have := HK2.out; have := HK3.out; omega⟩, ⟨su (Kd.S_mono (Kd.S_far (p := ⟨gb1071, 0, none⟩) (Kd.S_types HO1084.out BK1071.out (by decide)) (fun _ hk => hk.2) (.slice Ao51 y1082.length co51)) (fun _ hk => trivial))⟩, ⟨z51_9⟩, ⟨z51_10⟩, ⟨by (with_reducible repeat (first | refine blk_drewN ?_ _ | refine blk_drew ?_ | refine blk_alloc ?_ _)); refine blk_put (cs := #[u1072000]) ?_ 0 _ rfl; (with_reducible repeat (first | refine blk_drewN ?_ _ | refine blk_drew ?_ | refine blk_alloc ?_ _)); exact BK1071.out⟩, ⟨z51_8⟩⟩
            ·rw [if_neg c45] at H
             exact absurd H (by simp)
        ·rw [if_neg c29] at H
         exact absurd H (by simp)
       ·rw [if_neg c28] at H
        exact absurd H (by simp)
      ·rw [if_neg c27] at H
       have c27b0 : decide (x7_2 < (l0_0.length : Int)) = false := decide_eq_false c27
       clear c27
       simp only [Option.some.injEq, Prod.mk.injEq] at H
       obtain ⟨rfl, rfl⟩ := H
       have hnb53 := NB1066_1067.out
       have hnc53 := NB1067_1066.out
       have hnb54 := NB1066_1071.out
       have hnc54 := NB1071_1066.out
       have hcz55_0 : wr.cell? ⟨gb1066, 0, none⟩ = some (.slice A0_0 l0_0.length c0_0) := (blk_cell BK1066.out 0).trans rfl
       have hfz55_0 := blk_frozen BK1066.out 0
       have hnb56 := NB1071_1067.out
       have hnc56 := NB1067_1071.out
       have hcz57_0 : wr.cell? ⟨gb1071, 0, none⟩ = some (u1072000) := (blk_cell BK1071.out 0).trans rfl
       have hfz57_0 := blk_frozen BK1071.out 0
       obtain ⟨Ao58, co58, eo58⟩ := Kd.S_slice HO_1072000.out
       subst eo58
       have hcz59_0 : wr.cell? ⟨gb1067, 0, none⟩ = some (.slice none 0 0) := (blk_cell BK1067.out 0).trans rfl
       have hfz59_0 := blk_frozen BK1067.out 0
       go_wp2
       refine bodyPost_ret (results_ct rfl _ _ gb1067 35 #[.slice Ao58 x1072000_2.length co58] (0, 0) _ rfl z51_11 Try.underlying35 rfl (by kernel_rfl)) rfl ?_
       exact ⟨_, z51_3, su (Kd.S_mono (Kd.S_far (p := ⟨gb1067, 0, none⟩) (Kd.S_types HO_1072000.out BK1067.out (by decide)) (fun _ hk => hk.2) (.slice Ao58 x1072000_2.length co58)) (fun _ hk => trivial)), z51_8⟩

end Go.Proofs.Ytefkbmhkhpekjaa.PB

namespace Go.Proofs.Ytefkbmhkhpekjaa.PB
open Go.RowKit Go.Proofs.YtefkbmhkhpekjaaW.PrintWords Go.Proofs.YtefkbmhkhpekjaaW.PrintLast Go.Proofs.YtefkbmhkhpekjaaW.PrintMore
attribute [local go_sem] max2_int min2_int max_two min_two max_three min_three max_four min_four   -- for this text's walks alone
open Go.Proofs.YtefkbmhkhpekjaaMine
set_option linter.unusedVariables false
set_option linter.unusedSimpArgs false

/-! ### impl_TurnVals: function 52 -/
def valsF (row : List Int) (d : S85) : Option S85 := if 0 ≤ d.f2 ∧ d.f2 < (row.length : Int) then some ⟨d.f0, d.f1, rd row d.f2⟩ else none
set_option maxRecDepth 100000 in
set_option maxHeartbeats 4000000 in
theorem impl_TurnVals.closure (w : World) (d r : S85) (row : List Int) (A : Option Addr) (c : Nat) (gr : Nat) (hm : w.heap[gr]? = some (.cells #[.slice A row.length c] 22 (0, 0))) (hC : Kd.C (Kd.int .i64) w A row.length row) (h : valsF row d = some r) :
    Calls Try.prog 102 #[.agg #[.int .i64 d.f0, .int .i64 d.f1, .int .i64 d.f2], .pointer (some ⟨gr, 0, none⟩)] w fun e w' => e = .returned (.agg #[.int .i64 r.f0, .int .i64 r.f1, .int .i64 r.f2]) ∧ Below w.heap.size w w' := by
  unfold valsF at h
  split at h
  rotate_left
  · cases h
  rename_i hin
  obtain ⟨h0, h1⟩ := hin
  obtain rfl := Option.some.inj h
  clear h
  obtain ⟨ad, rfl, hx⟩ := Kd.at_int (Kd.C_alloc (Kd.C_alloc hC (Obj.cells #[.int .i64 d.f0, .int .i64 d.f1, .int .i64 d.f2] 85)) (Obj.cells #[.int .i64 0, .int .i64 0, .int .i64 0] 85)) d.f2 h0 h1
  have hcr : ((w.alloc (Obj.cells #[.int .i64 d.f0, .int .i64 d.f1, .int .i64 d.f2] 85)).alloc (Obj.cells #[.int .i64 0, .int .i64 0, .int .i64 0] 85)).cell? ⟨gr, 0, none⟩ = some (.slice (some ad) row.length c) := (blk_cell (blk_alloc (blk_alloc hm _) _) 0).trans rfl
  have b0 := decide_eq_true h0
  have b1 := decide_eq_true h1
  clear hm hC
  go_enter Try.func102, Try.ntmps102
  go_wp2_with fail
  refine bodyPost_ret (v := .agg #[.int .i64 d.f0, .int .i64 d.f1, .int .i64 (rd row d.f2)]) (by simp [results, Try.results102, go_sem]) rfl ⟨rfl, ?_⟩
  exact below_alloc (below_alloc (Below.refl _ _) _) _
def impl_TurnVals.body (k : Nat) (l0_0 : List (List S85)) (l1 : List Int) : Option (List (List S85) × Bool) := ((impl_Prog_copied.f k l0_0).bind fun c => (mapO (mapO (valsF l1)) c).bind fun r => some (r, true))
def impl_TurnVals.f (k : Nat) (l0_0 : List (List S85)) (l1 : List Int) : Option (List (List S85) × Bool) := (impl_ProgOk.f k l0_0).bind fun b => if b = true then ((impl_isRow.f k l1 4).bind fun q => if q = true then (if 0 < (l1.length : Int) then (if rd l1 0 = 0 then impl_TurnVals.body k l0_0 l1 else some ([], false)) else none) else some ([], false)) else some ([], false)
theorem impl_TurnVals.mono_body (k : Nat) (l0_0 : List (List S85)) (l1 : List Int) : LeO (impl_TurnVals.body k l0_0 l1) (impl_TurnVals.body (k + 1) l0_0 l1) := LeO.bind (impl_Prog_copied.mono _ _) (fun _ => LeO.refl _)
theorem impl_TurnVals.mono : ∀ l0_0 l1 k, LeO (impl_TurnVals.f k l0_0 l1) (impl_TurnVals.f (k + 1) l0_0 l1) := by
  intro l0_0 l1 k
  unfold impl_TurnVals.f
  exact LeO.bind (impl_ProgOk.mono _ _) (fun b => LeO.ite (LeO.bind (impl_isRow.mono _ _ _) (fun q => LeO.ite (LeO.ite (LeO.ite (impl_TurnVals.mono_body _ _ _) (LeO.refl _)) (LeO.refl _)) (LeO.refl _))) (LeO.refl _))
set_option maxRecDepth 100000 in
set_option maxHeartbeats 8000000 in
theorem impl_TurnVals.calls (k : Nat) (A0_0 : Option Addr) (c0_0 : Nat) (l0_0 : List (List S85)) (A1 : Option Addr) (c1 : Nat) (l1 : List Int) (r1 : List (List S85)) (r2 : Bool) (w : World) (hr0_0 : Kd.C (Kd.slice 85 k85) w A0_0 l0_0.length l0_0) (hc0_0 : l0_0.length ≤ c0_0) (hr1 : Kd.C (Kd.int .i64) w A1 l1.length l1) (hc1 : l1.length ≤ c1) (h : impl_TurnVals.f k l0_0 l1 = some (r1, r2)) :
  Calls Try.prog 52 #[.agg #[.slice A0_0 l0_0.length c0_0], .slice A1 l1.length c1] w fun e w' => ∃ v0_ : Value, e = .returned (.tuple #[.agg #[v0_], .bool r2]) ∧ Kd.S (Kd.slice 85 k85) 82 w' w.heap.size (fun _ => True) v0_ r1 ∧ Below w.heap.size w w' := by
 have HC := am_ hr0_0
 have HC1 := am_ hr1
 obtain ⟨b, e1, h⟩ := Option.bind_eq_some_iff.mp h
 have E1 := am_ e1
 have H := am_ h
 clear hr0_0 hr1 e1 h
 have hmf : ∀ (fn : Fn) (first cap : Array Value) (w : World), (Instr.makeFunc fn first cap).run Try.prog w = .ok (.func fn first cap) w := fun _ _ _ _ => rfl
 go_enter Try.func52, Try.ntmps52
 go_wp2_with (go_at_call 31; refine park ?_)
 refine ⟨?_⟩
 refine (impl_ProgOk.calls k A0_0 c0_0 l0_0 b _ (Kd.C_alloc (Kd.C_alloc (Kd.C_alloc HC.out _) _) _) hc0_0 E1.out).mono ?_
 rintro e w1 ⟨rfl, hb⟩
 have B3 := below_alloc (below_alloc (below_alloc (Below.refl w.heap.size w) (Obj.cells #[Value.slice A0_0 l0_0.length c0_0] 35)) (Obj.cells #[Value.slice A1 l1.length c1] 22)) (Obj.cells #[Value.slice none 0 0] 35)
 have SZ : (((w.alloc (Obj.cells #[Value.slice A0_0 l0_0.length c0_0] 35)).alloc (Obj.cells #[Value.slice A1 l1.length c1] 22)).alloc (Obj.cells #[Value.slice none 0 0] 35)).heap.size = w.heap.size + 3 := by rw [World.size_alloc, World.size_alloc, World.size_alloc]
 have hbr := blk_below (heap_alloc_new ((w.alloc (Obj.cells #[Value.slice A0_0 l0_0.length c0_0] 35)).alloc (Obj.cells #[Value.slice A1 l1.length c1] 22)) (Obj.cells #[Value.slice none 0 0] 35)) hb
 rw [World.size_alloc, World.size_alloc] at hbr
 have hbw := blk_below (blk_alloc (heap_alloc_new (w.alloc (Obj.cells #[Value.slice A0_0 l0_0.length c0_0] 35)) (Obj.cells #[Value.slice A1 l1.length c1] 22)) (Obj.cells #[Value.slice none 0 0] 35)) hb
 rw [World.size_alloc] at hbw
 have BR := am_ hbr
 have BW := am_ hbw
 have BP := am_ (blk_below (blk_alloc (blk_alloc (heap_alloc_new w (Obj.cells #[Value.slice A0_0 l0_0.length c0_0] 35)) (Obj.cells #[Value.slice A1 l1.length c1] 22)) (Obj.cells #[Value.slice none 0 0] 35)) hb)
 have HB := am_ (below_then B3 B3.size hb)
 have HC2 := am_ (Kd.C_below (Kd.C_alloc (Kd.C_alloc (Kd.C_alloc HC.out (Obj.cells #[Value.slice A0_0 l0_0.length c0_0] 35)) (Obj.cells #[Value.slice A1 l1.length c1] 22)) (Obj.cells #[Value.slice none 0 0] 35)) hb)
 have HR2 := am_ (Kd.C_below (Kd.C_alloc (Kd.C_alloc (Kd.C_alloc HC1.out (Obj.cells #[Value.slice A0_0 l0_0.length c0_0] 35)) (Obj.cells #[Value.slice A1 l1.length c1] 22)) (Obj.cells #[Value.slice none 0 0] 35)) hb)
 have LT := am_ (show w.heap.size + 3 ≤ w1.heap.size by have := hb.size; omega)
 clear hb hbr hbw SZ HC HC1 E1 B3
 cases b with
 | false =>
  have hcr : w1.cell? ⟨w.heap.size + 1 + 1, 0, none⟩ = some (.slice none 0 0) := (blk_cell BR.out 0).trans rfl
  have hfr := blk_frozen BR.out 0
  have e2 := Option.some.inj H.out
  simp only [Prod.mk.injEq] at e2
  obtain ⟨rfl, rfl⟩ := e2
  go_wp2_with fail
  refine bodyPost_ret (results_ct rfl _ _ (w.heap.size + 1 + 1) 35 #[.slice none 0 0] (0, 0) _ rfl (blk_set BR.out 0 _) Try.underlying35 rfl (by kernel_rfl)) rfl ?_
  exact ⟨_, rfl, Kd.S_nil _ _ _ _ _, below_set HB.out (by omega)⟩
 | true =>
  obtain ⟨q, e2, H2⟩ := Option.bind_eq_some_iff.mp H.out
  have E2 := am_ e2
  have HQ := am_ H2
  have hcw : w1.cell? ⟨w.heap.size + 1, 0, none⟩ = some (.slice A1 l1.length c1) := (blk_cell BW.out 0).trans rfl
  clear e2 H2 H
  go_wp2_with (go_at_call 97; refine park ?_)
  clear hcw
  refine ⟨?_⟩
  refine (impl_isRow.calls k A1 c1 l1 4 q _ HR2.out hc1 E2.out).mono ?_
  rintro e w2 ⟨rfl, hd⟩
  have hb : Below w1.heap.size w1 w2 := hd.below
  clear hd
  have BR2 := am_ (blk_below BR.out hb)
  have BW2 := am_ (blk_below BW.out hb)
  have BP2 := am_ (blk_below BP.out hb)
  have HC3 := am_ (Kd.C_below HC2.out hb)
  have HR3 := am_ (Kd.C_below HR2.out hb)
  have HB2 := am_ (below_then HB.out HB.out.size hb)
  have LT2 := am_ (show w.heap.size + 3 ≤ w2.heap.size by have := hb.size; have := LT.out; omega)
  clear hb BR BW BP HC2 HR2 HB LT E2
  have hcr : w2.cell? ⟨w.heap.size + 1 + 1, 0, none⟩ = some (.slice none 0 0) := (blk_cell BR2.out 0).trans rfl
  have hfr := blk_frozen BR2.out 0
  cases q with
  | false =>
   have e2 := Option.some.inj HQ.out
   simp only [Prod.mk.injEq] at e2
   obtain ⟨rfl, rfl⟩ := e2
   go_wp2_with fail
   refine bodyPost_ret (results_ct rfl _ _ (w.heap.size + 1 + 1) 35 #[.slice none 0 0] (0, 0) _ rfl (blk_set BR2.out 0 _) Try.underlying35 rfl (by kernel_rfl)) rfl ?_
   exact ⟨_, rfl, Kd.S_nil _ _ _ _ _, below_set HB2.out (by omega)⟩
  | true =>
   have HK := HQ.out
   rw [if_pos rfl] at HK
   by_cases hp : 0 < (l1.length : Int)
   rotate_left
   ·rw [if_neg hp] at HK; cases HK
   rw [if_pos hp] at HK
   obtain ⟨ad, rfl, hx⟩ := Kd.at_int HR3.out 0 (by omega) hp
   have e1 : ad.add ((0 : Int).toNat) = ad := by unfold Addr.add; simp
   rw [e1] at hx
   clear e1
   have hcw : w2.cell? ⟨w.heap.size + 1, 0, none⟩ = some (.slice (some ad) l1.length c1) := (blk_cell BW2.out 0).trans rfl
   have bp := decide_eq_true hp
   by_cases hz : rd l1 0 = 0
   ·rw [if_pos hz] at HK
    rw [hz] at hx
    clear hcr hfr
    have hcp : w2.cell? ⟨w.heap.size, 0, none⟩ = some (.slice A0_0 l0_0.length c0_0) := (blk_cell BP2.out 0).trans rfl
    go_wp2_with (go_at_call 82; refine park ?_)
    refine ⟨?_⟩
    clear hcp hcw hx
    unfold impl_TurnVals.body at HK
    obtain ⟨cl, e3, HK⟩ := Option.bind_eq_some_iff.mp HK
    obtain ⟨rr, e4, HK⟩ := Option.bind_eq_some_iff.mp HK
    simp only [Option.some.injEq, Prod.mk.injEq] at HK
    obtain ⟨rfl, rfl⟩ := HK
    refine (each102 k (valsF l1) (.pointer (some ⟨w.heap.size + 1, 0, none⟩)) A0_0 c0_0 l0_0 cl rr _ HC3.out hc0_0
     (fun W d d' hW hd => impl_TurnVals.closure W d d' l1 (some ad) c1 (w.heap.size + 1) (blk_below BW2.out hW) (Kd.C_below HR3.out hW) hd) e3 e4).mono ?_
    rintro e w5 ⟨v5, rfl, hS, hb⟩
    obtain ⟨Av, cv, rfl⟩ := Kd.S_slice hS
    have BR6 := am_ (blk_below BR2.out hb)
    have HB6 := am_ (below_then HB2.out HB2.out.size hb)
    have HS6 := am_ (Kd.S_lower (Kd.S_mono (ok' := fun k => w.heap.size + 3 ≤ k) (Kd.S_bound hS) (fun k hk => by have := hk.2.1; have := LT2.out; omega)) (show w.heap.size ≤ _ from HB2.out.size))
    clear hS hb e3 e4
    have hcr : w5.cell? ⟨w.heap.size + 1 + 1, 0, none⟩ = some (.slice none 0 0) := (blk_cell BR6.out 0).trans rfl
    have hfr := blk_frozen BR6.out 0
    go_wp2_with fail
    refine bodyPost_ret (results_ct rfl _ _ (w.heap.size + 1 + 1) 35 #[.slice Av rr.length cv] (0, 0) _ rfl (blk_set BR6.out 0 _) Try.underlying35 rfl (by kernel_rfl)) rfl ?_
    exact ⟨_, rfl, Kd.S_mono (Kd.S_far (p := ⟨w.heap.size + 1 + 1, 0, none⟩) HS6.out (fun k hk => by show k ≠ w.heap.size + 1 + 1; omega) _) (fun _ _ => trivial), below_set HB6.out (by omega)⟩
   ·rw [if_neg hz] at HK
    have hzb : (rd l1 0 == 0) = false := by simpa using hz
    have hzn : (rd l1 0 != 0) = true := by simpa using hz
    simp only [Option.some.injEq, Prod.mk.injEq] at HK
    obtain ⟨rfl, rfl⟩ := HK
    go_wp2_with fail
    refine bodyPost_ret (results_ct rfl _ _ (w.heap.size + 1 + 1) 35 #[.slice none 0 0] (0, 0) _ rfl (blk_set BR2.out 0 _) Try.underlying35 rfl (by kernel_rfl)) rfl ?_
    exact ⟨_, rfl, Kd.S_nil _ _ _ _ _, below_set HB2.out (by omega)⟩


end Go.Proofs.Ytefkbmhkhpekjaa.PB

namespace Go.Proofs.Ytefkbmhkhpekjaa.PB
open Go.RowKit Go.Proofs.YtefkbmhkhpekjaaW.PrintWords Go.Proofs.YtefkbmhkhpekjaaW.PrintLast Go.Proofs.YtefkbmhkhpekjaaW.PrintMore
attribute [local go_sem] max2_int min2_int max_two min_two max_three min_three max_four min_four   -- for this text's walks alone
open Go.Proofs.YtefkbmhkhpekjaaMine
set_option linter.unusedVariables false
set_option linter.unusedSimpArgs false

/-! ### laws_FnTurnSame: function 17 -/
def sameL (m : Nat) : List Int := (List.range m).map (fun i : Nat => (i : Int))
theorem sameL_succ (m : Nat) : sameL (m + 1) = sameL m ++ [(m : Int)] := by simp [sameL, List.range_succ]
theorem sameL_length (m : Nat) : (sameL m).length = m := by simp [sameL]
def laws_FnTurnSame.Facts (k : Nat) (l0 : List Int) (p want : List (List S85)) (row : List Int) (told okp : Bool) : Prop := spec_DrawTurnVals.f k l0 = some (p, row) ∧ spec_TurnVals.f k p row = some (want, told) ∧ impl_TurnVals.f k p row = some (want, told) ∧ laws_lpProg.f k want want = some true ∧ spec_ProgOk.f k p = some okp ∧ p.length ≤ 3 ∧ (okp = true → impl_TurnThreads.f k p (sameL p.length) = some (p, true) ∧ impl_TurnPlaces.f k p [0, 1, 2] = some (p, true) ∧ impl_TurnVals.f k p [0, 1, 2, 3] = some (p, true) ∧ laws_lpProg.f k p p = some true)
set_option maxRecDepth 100000 in
set_option maxHeartbeats 8000000 in
theorem laws_FnTurnSame.calls (k : Nat) (A0 : Option Addr) (c0 : Nat) (l0 : List Int) (w : World) (p want : List (List S85)) (row : List Int) (told okp : Bool) (hr0 : Kd.C (Kd.int .u8) w A0 l0.length l0) (hc0 : l0.length ≤ c0) (h : (l0.length : Int) > 1048576 ∨ laws_FnTurnSame.Facts k l0 p want row told okp) :
  Calls Try.prog 17 #[.slice A0 l0.length c0] w fun e w' => e = .returned (.bool true) ∧ Below w.heap.size w w' := by
 have C0 := am_ hr0
 have L0 := am_ hc0
 clear hr0 hc0
 by_cases hl : (l0.length : Int) > 1048576
 ·have hlb : decide (1048576 < (l0.length : Int)) = true := decide_eq_true hl
  clear h
  go_enter Try.func17, Try.ntmps17
  go_wp2_with fail
  refine bodyPost_ret (results_tmp rfl _ _ _) rfl ?_
  exact ⟨rfl, Below.refl _ _⟩
 have hlb : decide (1048576 < (l0.length : Int)) = false := decide_eq_false hl
 replace h := h.resolve_left hl
 unfold laws_FnTurnSame.Facts at h
 obtain ⟨h1, h2, h3, h4, h5, h6, h7⟩ := h
 have F1 := am_ h1
 have F2 := am_ h2
 have F3 := am_ h3
 have F4 := am_ h4
 have F5 := am_ h5
 have F6 := am_ h6
 have F7 := am_ h7
 clear h1 h2 h3 h4 h5 h6 h7
 have hne : (told != told) = false := by simp
 have heq : (told == told) = true := by simp
 go_enter Try.func17, Try.ntmps17
 go_wp2_with (go_at_call 50; refine park ?_)
 refine ⟨?_⟩
 refine (spec_DrawTurnVals.calls k _ _ l0 p row _ C0.out L0.out F1.out).mono ?_
 rintro e w1 ⟨vp, vr, rfl, hN, hR, hb⟩
 obtain ⟨Ap, cp, rfl⟩ := Kd.N_slice hN
 obtain ⟨Ar, cr, rfl⟩ := Kd.R_slice hR
 have CPa := am_ (Kd.N_reads' hN).2.2
 have LP := am_ (Kd.N_reads' hN).2.1
 have CRa := am_ (Kd.R_reads' hR).2.2
 have LR := am_ (Kd.R_reads' hR).2.1
 have HBa := am_ hb
 clear hN hR hb
 have hc3 : (w1.alloc (Obj.cells #[.slice Ap p.length cp] 35)).cell? ⟨w1.heap.size, 0, none⟩ = some (.slice Ap p.length cp) := (blk_cell (heap_alloc_new w1 _) 0).trans rfl
 go_wp2_with (go_at_call 51; refine park ?_)
 clear hc3
 refine ⟨?_⟩
 have BPb := am_ (heap_alloc_new w1 (Obj.cells #[.slice Ap p.length cp] 35))
 have hb := below_alloc (Below.refl w1.heap.size w1) (Obj.cells #[.slice Ap p.length cp] 35)
 have CPb := am_ (Kd.C_below CPa.out hb)
 have CRb := am_ (Kd.C_below CRa.out hb)
 have HBb := am_ (below_then HBa.out HBa.out.size hb)
 clear CPa CRa HBa hb
 refine (spec_TurnVals.calls k _ _ p _ _ row want told _ CPb.out LP.out CRb.out LR.out F2.out).mono ?_
 rintro e w2 ⟨vq, rfl, hS, hb⟩
 obtain ⟨Aw, cw, rfl⟩ := Kd.S_slice hS
 have CWc := am_ (Kd.S_reads' hS).2.2
 have LW := am_ (Kd.S_reads' hS).2.1
 have CPc := am_ (Kd.C_below CPb.out hb)
 have CRc := am_ (Kd.C_below CRb.out hb)
 have BPc := am_ (blk_below BPb.out hb)
 have HBc := am_ (below_then HBb.out HBb.out.size hb)
 clear CPb CRb BPb HBb
 generalize w1.heap.size = gp at *
 clear hS hb
 have BWd := am_ (heap_alloc_new w2 (Obj.cells #[.slice Aw want.length cw] 35))
 have hb := below_alloc (Below.refl w2.heap.size w2) (Obj.cells #[.slice Aw want.length cw] 35)
 have CPd := am_ (Kd.C_below CPc.out hb)
 have CRd := am_ (Kd.C_below CRc.out hb)
 have CWd := am_ (Kd.C_below CWc.out hb)
 have BPd := am_ (blk_below BPc.out hb)
 have HBd := am_ (below_then HBc.out HBc.out.size hb)
 clear CPc CRc CWc BPc HBc hb
 have hcp : (w2.alloc (Obj.cells #[.slice Aw want.length cw] 35)).cell? ⟨gp, 0, none⟩ = some (.slice Ap p.length cp) := (blk_cell BPd.out 0).trans rfl
 go_wp2_with (go_at_call 52; refine park ?_)
 clear hcp
 refine ⟨?_⟩
 generalize w2.heap.size = gw at *
 generalize (w2.alloc (Obj.cells #[.slice Aw want.length cw] 35)) = w3 at *
 refine (impl_TurnVals.calls k _ _ p _ _ row want told _ CPd.out LP.out CRd.out LR.out F3.out).mono ?_
 rintro e w4 ⟨vx, rfl, hS, hb⟩
 obtain ⟨Aq, cq, rfl⟩ := Kd.S_slice hS
 have CQf := am_ (Kd.S_reads' hS).2.2
 have LQ := am_ (Kd.S_reads' hS).2.1
 have CPf := am_ (Kd.C_below CPd.out hb)
 have CRf := am_ (Kd.C_below CRd.out hb)
 have CWf := am_ (Kd.C_below CWd.out hb)
 have BPf := am_ (blk_below BPd.out hb)
 have BWf := am_ (blk_below BWd.out hb)
 have HBf := am_ (below_then HBd.out HBd.out.size hb)
 clear CPd CRd CWd BPd BWd HBd hS hb
 have BQg := am_ (heap_alloc_new w4 (Obj.cells #[.slice Aq want.length cq] 35))
 have hb := below_alloc (Below.refl w4.heap.size w4) (Obj.cells #[.slice Aq want.length cq] 35)
 have CPg := am_ (Kd.C_below CPf.out hb)
 have CRg := am_ (Kd.C_below CRf.out hb)
 have CWg := am_ (Kd.C_below CWf.out hb)
 have CQg := am_ (Kd.C_below CQf.out hb)
 have BPg := am_ (blk_below BPf.out hb)
 have BWg := am_ (blk_below BWf.out hb)
 have HBg := am_ (below_then HBf.out HBf.out.size hb)
 clear CPf CRf CWf CQf BPf BWf HBf hb
 have hcw : (w4.alloc (Obj.cells #[.slice Aq want.length cq] 35)).cell? ⟨gw, 0, none⟩ = some (.slice Aw want.length cw) := (blk_cell BWg.out 0).trans rfl
 have hcq : (w4.alloc (Obj.cells #[.slice Aq want.length cq] 35)).cell? ⟨w4.heap.size, 0, none⟩ = some (.slice Aq want.length cq) := (blk_cell BQg.out 0).trans rfl
 go_wp2_with (go_at_call 30; refine park ?_)
 clear hcw hcq
 refine ⟨?_⟩
 generalize w4.heap.size = gq at *
 generalize (w4.alloc (Obj.cells #[.slice Aq want.length cq] 35)) = w5 at *
 refine (laws_lpProg.calls k _ _ want _ _ want true _ CQg.out LQ.out CWg.out LW.out F4.out).mono ?_
 rintro e w6 ⟨rfl, hb⟩
 have CPh := am_ (Kd.C_below CPg.out hb)
 have CWh := am_ (Kd.C_below CWg.out hb)
 have CQh := am_ (Kd.C_below CQg.out hb)
 have BPh := am_ (blk_below BPg.out hb)
 have BWh := am_ (blk_below BWg.out hb)
 have BQh := am_ (blk_below BQg.out hb)
 have HBh := am_ (below_then HBg.out HBg.out.size hb)
 clear CPg CWg CQg BPg BWg BQg HBg hb CRg
 have hcp : w6.cell? ⟨gp, 0, none⟩ = some (.slice Ap p.length cp) := (blk_cell BPh.out 0).trans rfl
 go_wp2_with (go_at_call 43; refine park ?_)
 clear hcp
 refine ⟨?_⟩
 refine (spec_ProgOk.calls k _ _ p okp _ CPh.out LP.out F5.out).mono ?_
 rintro e w7 ⟨rfl, hb⟩
 have CPi := am_ (Kd.C_below CPh.out hb)
 have CWi := am_ (Kd.C_below CWh.out hb)
 have CQi := am_ (Kd.C_below CQh.out hb)
 have BPi := am_ (blk_below BPh.out hb)
 have BWi := am_ (blk_below BWh.out hb)
 have BQi := am_ (blk_below BQh.out hb)
 have HBi := am_ (below_then HBh.out HBh.out.size hb)
 clear CPh CWh CQh BPh BWh BQh HBh hb
 cases okp
 ·have hcw : w7.cell? ⟨gw, 0, none⟩ = some (.slice Aw want.length cw) := (blk_cell BWi.out 0).trans rfl
  have hcq : w7.cell? ⟨gq, 0, none⟩ = some (.slice Aq want.length cq) := (blk_cell BQi.out 0).trans rfl
  go_wp2_with (go_at_call 30; refine park ?_)
  refine ⟨?_⟩
  refine (laws_lpProg.calls k _ _ want _ _ want true _ CQi.out LQ.out CWi.out LW.out F4.out).mono ?_
  rintro e w8 ⟨rfl, hb⟩
  have HBz := am_ (below_then HBi.out HBi.out.size hb)
  clear hb
  go_wp2_with fail
  refine bodyPost_ret (results_tmp rfl _ _ _) rfl ?_
  exact ⟨rfl, HBz.out⟩
 ·have G := am_ (F7.out (by simp))
  clear F7 F4 CWi CQi BWi BQi hne heq
  go_wp2_with ((with_reducible refine gate_dst (N := 59) rfl ?_); refine park ?_)
  refine ⟨?_⟩
  refine Kd.R_lit (Kd.int .i64) (w0 := w7) w7.heap.size 3 rfl (N := 59) rfl (xs := ([] : List Int)) (inner := []) (ok := fun _ => True) (okp := fun _ => True) ?hr ?hp (fun _ hk => hk) trivial (Below.refl _ _) (Nat.le_refl _) (by simp) ?_
  case hr => first | (go_simp; done) | (go_simp; rfl)
  case hp => exact Reps.none _ _
  intro v1 w8 hR hb hg hnew
  have R0 := am_ hR
  have X0 := am_ hb
  clear hR hb hg hnew
  go_wp2_with fail
  go_loopg [9, 10] p.length (fun kq v9 v10 W => ∃ j : Nat, v10 = .int .i64 (j : Int) ∧ kq + j = p.length ∧ Aside0 (Kd.R (Kd.int .i64) 3 W w7.heap.size (fun _ => True) v9 (sameL j)) ∧ Aside0 (Below w7.heap.size w7 W))
  case atStart => exact ⟨0, rfl, by omega, R0, X0⟩
  case round =>
   obtain ⟨j, rfl, hj, RJ, XJ⟩ := hrel
   clear R0 X0
   have hcp : wr.cell? ⟨gp, 0, none⟩ = some (.slice Ap p.length cp) := (blk_cell (blk_below BPi.out XJ.out) 0).trans rfl
   have h3 := F6.out
   cases gk with
   | zero =>
    have hlt : ¬ ((j : Int) < (p.length : Int)) := by omega
    obtain rfl : j = p.length := by omega
    obtain ⟨As, cs, rfl⟩ := Kd.R_slice RJ.out
    have CSa := am_ (Kd.R_reads' RJ.out).2.2
    have LS := am_ (Kd.R_reads' RJ.out).2.1
    have CPj := am_ (Kd.C_below CPi.out XJ.out)
    have BPj := am_ (blk_below BPi.out XJ.out)
    have HBj := am_ (below_then HBi.out HBi.out.size XJ.out)
    clear RJ XJ CPi BPi HBi
    go_wp2_with (go_at_call 47; refine park ?_)
    clear hcp
    refine ⟨?_⟩
    refine (impl_TurnThreads.calls k _ _ p _ _ (sameL p.length) p true _ CPj.out LP.out CSa.out LS.out G.out.1).mono ?_
    rintro e w9 ⟨vx, rfl, hS, hb⟩
    obtain ⟨Aa, ca, rfl⟩ := Kd.S_slice hS
    have CAk := am_ (Kd.S_reads' hS).2.2
    have LA := am_ (Kd.S_reads' hS).2.1
    have CPk := am_ (Kd.C_below CPj.out hb)
    have BPk := am_ (blk_below BPj.out hb)
    have HBk := am_ (below_then HBj.out HBj.out.size hb)
    clear CPj BPj HBj hS hb CSa LS
    have BAl := am_ (heap_alloc_new w9 (Obj.cells #[.slice Aa p.length ca] 35))
    have hb := below_alloc (Below.refl w9.heap.size w9) (Obj.cells #[.slice Aa p.length ca] 35)
    have CPl := am_ (Kd.C_below CPk.out hb)
    have CAl := am_ (Kd.C_below CAk.out hb)
    have BPl := am_ (blk_below BPk.out hb)
    have HBl := am_ (below_then HBk.out HBk.out.size hb)
    clear CPk CAk BPk HBk hb
    have hcp : (w9.alloc (Obj.cells #[.slice Aa p.length ca] 35)).cell? ⟨gp, 0, none⟩ = some (.slice Ap p.length cp) := (blk_cell BPl.out 0).trans rfl
    go_wp2_with (go_at_call 48; refine park ?_)
    clear hcp
    refine ⟨?_⟩
    have eq3 : (w9.alloc (Obj.cells #[.slice Aa p.length ca] 35)).heap.size = w9.heap.size + 1 := World.size_alloc _ _
    generalize w9.heap.size = ga at *
    generalize (w9.alloc (Obj.cells #[.slice Aa p.length ca] 35)) = wa at *
    have hbi := heap_alloc_new wa (Obj.cells #[.int .i64 0, .int .i64 1, .int .i64 2] 3)
    rw [eq3] at hbi
    have hi := int_C [0, 1, 2] hbi rfl (by decide)
    clear hbi
    have hb := below_alloc (Below.refl wa.heap.size wa) (Obj.cells #[.int .i64 0, .int .i64 1, .int .i64 2] 3)
    have CPm := am_ (Kd.C_below CPl.out hb)
    have CAm := am_ (Kd.C_below CAl.out hb)
    have BPm := am_ (blk_below BPl.out hb)
    have BAm := am_ (blk_below BAl.out hb)
    have HBm := am_ (below_then HBl.out HBl.out.size hb)
    clear CPl CAl BPl BAl HBl hb
    refine (impl_TurnPlaces.calls k _ _ p _ _ [0, 1, 2] p true _ CPm.out LP.out hi (Nat.le_refl 3) G.out.2.1).mono ?_
    rintro e w10 ⟨vx, rfl, hS, hb⟩
    obtain ⟨Ab, cb, rfl⟩ := Kd.S_slice hS
    have CBn := am_ (Kd.S_reads' hS).2.2
    have LB := am_ (Kd.S_reads' hS).2.1
    have CPn := am_ (Kd.C_below CPm.out hb)
    have CAn := am_ (Kd.C_below CAm.out hb)
    have BPn := am_ (blk_below BPm.out hb)
    have BAn := am_ (blk_below BAm.out hb)
    have HBn := am_ (below_then HBm.out HBm.out.size hb)
    clear CPm CAm BPm BAm HBm hS hb hi eq3
    have BBo := am_ (heap_alloc_new w10 (Obj.cells #[.slice Ab p.length cb] 35))
    have hb := below_alloc (Below.refl w10.heap.size w10) (Obj.cells #[.slice Ab p.length cb] 35)
    have CPo := am_ (Kd.C_below CPn.out hb)
    have CAo := am_ (Kd.C_below CAn.out hb)
    have CBo := am_ (Kd.C_below CBn.out hb)
    have BPo := am_ (blk_below BPn.out hb)
    have BAo := am_ (blk_below BAn.out hb)
    have HBo := am_ (below_then HBn.out HBn.out.size hb)
    clear CPn CAn CBn BPn BAn HBn hb
    have hcp : (w10.alloc (Obj.cells #[.slice Ab p.length cb] 35)).cell? ⟨gp, 0, none⟩ = some (.slice Ap p.length cp) := (blk_cell BPo.out 0).trans rfl
    go_wp2_with (go_at_call 52; refine park ?_)
    clear hcp
    refine ⟨?_⟩
    have eq3 : (w10.alloc (Obj.cells #[.slice Ab p.length cb] 35)).heap.size = w10.heap.size + 1 := World.size_alloc _ _
    generalize w10.heap.size = gb at *
    generalize (w10.alloc (Obj.cells #[.slice Ab p.length cb] 35)) = wb at *
    have hbi := heap_alloc_new wb (Obj.cells #[.int .i64 0, .int .i64 1, .int .i64 2, .int .i64 3] 3)
    rw [eq3] at hbi
    have hi := int_C [0, 1, 2, 3] hbi rfl (by decide)
    clear hbi
    have hb := below_alloc (Below.refl wb.heap.size wb) (Obj.cells #[.int .i64 0, .int .i64 1, .int .i64 2, .int .i64 3] 3)
    have CPp := am_ (Kd.C_below CPo.out hb)
    have CAp := am_ (Kd.C_below CAo.out hb)
    have CBp := am_ (Kd.C_below CBo.out hb)
    have BPp := am_ (blk_below BPo.out hb)
    have BAp := am_ (blk_below BAo.out hb)
    have BBp := am_ (blk_below BBo.out hb)
    have HBp := am_ (below_then HBo.out HBo.out.size hb)
    clear CPo CAo CBo BPo BAo BBo HBo hb
    refine (impl_TurnVals.calls k _ _ p _ _ [0, 1, 2, 3] p true _ CPp.out LP.out hi (Nat.le_refl 4) G.out.2.2.1).mono ?_
    rintro e w11 ⟨vx, rfl, hS, hb⟩
    obtain ⟨Ac, cc, rfl⟩ := Kd.S_slice hS
    have CCq := am_ (Kd.S_reads' hS).2.2
    have LC := am_ (Kd.S_reads' hS).2.1
    have CPq := am_ (Kd.C_below CPp.out hb)
    have CAq := am_ (Kd.C_below CAp.out hb)
    have CBq := am_ (Kd.C_below CBp.out hb)
    have BPq := am_ (blk_below BPp.out hb)
    have BAq := am_ (blk_below BAp.out hb)
    have BBq := am_ (blk_below BBp.out hb)
    have HBq := am_ (below_then HBp.out HBp.out.size hb)
    clear CPp CAp CBp BPp BAp BBp HBp hS hb hi eq3
    have BCr := am_ (heap_alloc_new w11 (Obj.cells #[.slice Ac p.length cc] 35))
    have hb := below_alloc (Below.refl w11.heap.size w11) (Obj.cells #[.slice Ac p.length cc] 35)
    have CPr := am_ (Kd.C_below CPq.out hb)
    have CAr := am_ (Kd.C_below CAq.out hb)
    have CBr := am_ (Kd.C_below CBq.out hb)
    have CCr := am_ (Kd.C_below CCq.out hb)
    have BPr := am_ (blk_below BPq.out hb)
    have BAr := am_ (blk_below BAq.out hb)
    have BBr := am_ (blk_below BBq.out hb)
    have HBr := am_ (below_then HBq.out HBq.out.size hb)
    clear CPq CAq CBq CCq BPq BAq BBq HBq hb
    have hcp : (w11.alloc (Obj.cells #[.slice Ac p.length cc] 35)).cell? ⟨gp, 0, none⟩ = some (.slice Ap p.length cp) := (blk_cell BPr.out 0).trans rfl
    have hca : (w11.alloc (Obj.cells #[.slice Ac p.length cc] 35)).cell? ⟨ga, 0, none⟩ = some (.slice Aa p.length ca) := (blk_cell BAr.out 0).trans rfl
    go_wp2_with (go_at_call 30; refine park ?_)
    clear hcp hca
    refine ⟨?_⟩
    generalize w11.heap.size = gc at *
    generalize (w11.alloc (Obj.cells #[.slice Ac p.length cc] 35)) = wc at *
    refine (laws_lpProg.calls k _ _ p _ _ p true _ CAr.out LA.out CPr.out LP.out G.out.2.2.2).mono ?_
    rintro e w12 ⟨rfl, hb⟩
    have CPs := am_ (Kd.C_below CPr.out hb)
    have CBs := am_ (Kd.C_below CBr.out hb)
    have CCs := am_ (Kd.C_below CCr.out hb)
    have BPs := am_ (blk_below BPr.out hb)
    have BBs := am_ (blk_below BBr.out hb)
    have BCs := am_ (blk_below BCr.out hb)
    have HBs := am_ (below_then HBr.out HBr.out.size hb)
    clear CPr CBr CCr BPr BBr BCr HBr hb
    have hcp : w12.cell? ⟨gp, 0, none⟩ = some (.slice Ap p.length cp) := (blk_cell BPs.out 0).trans rfl
    have hca : w12.cell? ⟨gb, 0, none⟩ = some (.slice Ab p.length cb) := (blk_cell BBs.out 0).trans rfl
    go_wp2_with (go_at_call 30; refine park ?_)
    clear hcp hca
    refine ⟨?_⟩
    refine (laws_lpProg.calls k _ _ p _ _ p true _ CBs.out LB.out CPs.out LP.out G.out.2.2.2).mono ?_
    rintro e w13 ⟨rfl, hb⟩
    have CPt := am_ (Kd.C_below CPs.out hb)
    have CCt := am_ (Kd.C_below CCs.out hb)
    have BPt := am_ (blk_below BPs.out hb)
    have BCt := am_ (blk_below BCs.out hb)
    have HBt := am_ (below_then HBs.out HBs.out.size hb)
    clear CPs CCs BPs BCs HBs hb
    have hcp : w13.cell? ⟨gp, 0, none⟩ = some (.slice Ap p.length cp) := (blk_cell BPt.out 0).trans rfl
    have hca : w13.cell? ⟨gc, 0, none⟩ = some (.slice Ac p.length cc) := (blk_cell BCt.out 0).trans rfl
    go_wp2_with (go_at_call 30; refine park ?_)
    clear hcp hca
    refine ⟨?_⟩
    refine (laws_lpProg.calls k _ _ p _ _ p true _ CCt.out LC.out CPt.out LP.out G.out.2.2.2).mono ?_
    rintro e w14 ⟨rfl, hb⟩
    have HBz := am_ (below_then HBt.out HBt.out.size hb)
    clear hb
    go_wp2_with fail
    refine bodyPost_ret (results_tmp rfl _ _ _) rfl ?_
    exact ⟨rfl, HBz.out⟩
   | succ k1 =>
    have hlt : (j : Int) < (p.length : Int) := by omega
    have SZ := am_ XJ.out.size
    go_wp2_with ((with_reducible refine gate_dst (N := 70) rfl ?_); refine park ?_)
    refine ⟨?_⟩
    refine Kd.R_append (Kd.int .i64) (w0 := w7) w7.heap.size rfl (.tmp 67) (.tmp 69) 22 3 (.int .i64 0) 8 rfl Try.underlying22 info3 rfl (by decide) (by omega) _ (sameL j) (j : Int) [.int .i64 (j : Int)] (fun _ => True) (fun _ => False) rfl rfl ?aP (fun _ hk => hk.elim) ?aF ?aO XJ.out ?aS ?aL ?_
    case aP => exact rfl
    case aF => exact (fun _ _ => trivial)
    case aO => exact RJ.out
    case aS => exact SZ.out
    case aL => rw [sameL_length]; omega
    intro v2 w9 ho hb hg hat
    have R1 := am_ (show Kd.R (Kd.int .i64) 3 w9 w7.heap.size (fun _ => True) v2 (sameL (j + 1)) from by rw [sameL_succ]; exact ho)
    have X1 := am_ hb
    clear ho hb hg hat RJ XJ hcp
    go_wp2_with fail
    go_roundg k1
    case measure => omega
    case rel => exact ⟨j + 1, by rw [show ((j + 1 : Nat) : Int) = (j : Int) + 1 by omega], by omega, R1, X1⟩
def laws_FnTurnSame.Pure : Prop := ∀ (l0 : List Int), l0.length ≤ maxLen → l0.length * 1 ≤ 140737488351232 → (∀ x ∈ l0, (Lit.int .u8 x).wf = true) → ∃ k p want row told okp, (l0.length : Int) > 1048576 ∨ laws_FnTurnSame.Facts k l0 p want row told okp
theorem laws_FnTurnSame.walk (P : laws_FnTurnSame.Pure) (a0 : Option Addr) (len0 cap0 : Nat) (z0 : List Int) (w : World) (w0 : (a0 = none ∧ len0 = 0 ∧ cap0 = 0 ∧ z0 = []) ∨ ∃ x, a0 = some x ∧ len0 ≤ cap0 ∧ cap0 ≤ maxLen ∧ z0.length = cap0 ∧ (∀ i, i < z0.length → w.cell? (x.add i) = some (.int .u8 (z0.getD i 0))) ∧ ∀ n ∈ z0, (Lit.int .u8 n).wf = true) (y0 : len0 * 1 ≤ 140737488351232) :
  Calls Try.prog 17 #[.slice a0 len0 cap0] w fun e w' => e = .returned (.bool true) ∧ Below w.heap.size w w' := by
 obtain ⟨l0, rfl, hr0, hm0, hw0, hc0⟩ := ReadsInt.ofRowC w0
 obtain ⟨k, p, want, row, told, okp, h⟩ := P l0 hm0 y0 hw0
 refine (laws_FnTurnSame.calls k _ _ l0 w p want row told okp (Kd.C_of_reads (d := (0 : Int)) (h1 := fun _ => rfl) hr0) hc0 h).mono ?_
 rintro e w' ⟨rfl, hd⟩
 exact ⟨rfl, hd⟩


end Go.Proofs.Ytefkbmhkhpekjaa.PB

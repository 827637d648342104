-- Joined by wip/mclaim.py out of YtefkbmhkhpekjaaPBx92, YtefkbmhkhpekjaaPBx41, YtefkbmhkhpekjaaPBx42, YtefkbmhkhpekjaaPBx9
import Derived.Test.YtefkbmhkhpekjaaPBx0
import Derived.Test.YtefkbmhkhpekjaaPBx70
import Derived.Test.YtefkbmhkhpekjaaPBx71
import Derived.Test.YtefkbmhkhpekjaaJFnTurnPlainyPBx123
import Derived.Test.YtefkbmhkhpekjaaPBx124
import Derived.Test.YtefkbmhkhpekjaaJFnTurnPlainx1
import Derived.Test.YtefkbmhkhpekjaaPBx30
import Derived.Test.YtefkbmhkhpekjaaPBx31
import Derived.Test.YtefkbmhkhpekjaaPBx35
import Derived.Test.YtefkbmhkhpekjaaPBx40
namespace Go.Proofs.Ytefkbmhkhpekjaa.PB
open Go.RowKit Go.Proofs.YtefkbmhkhpekjaaW.PrintWords Go.Proofs.YtefkbmhkhpekjaaW.PrintLast Go.Proofs.YtefkbmhkhpekjaaW.PrintMore
attribute [local go_sem] max2_int min2_int max_two min_two max_three min_three max_four min_four   -- for this text's walks alone
open Go.Proofs.YtefkbmhkhpekjaaMine
set_option linter.unusedVariables false
set_option linter.unusedSimpArgs false

theorem z92_1 {p : Prop} (h : p := by first | rfl | (simp [errW_none, errW_some] <;> rfl) | (simp [*, errW_none, errW_some] <;> rfl)) : p := h
theorem z92_2 {p : Prop} (h : p := by repeat (first | (with_reducible first | exact HK.out | apply KeepBut.set_ | apply keep_drewN | apply keep_drew | apply keep_alloc) | exact HK.out)) : p := h
theorem z92_3 {p : Prop} (h : p := by repeat (first | (with_reducible first | exact HI0.out | apply IsS116.alloc | apply IsS116.drewN | apply IsS116.drew | apply IsS116.set_1) | exact HI0.out)) : p := h
theorem z92_4 {p : Prop} (h : p := by repeat (first | (with_reducible first | exact HB.out | apply below_alloc | apply pw_below_drewN | apply below_drew1 | refine below_set ?_ (IsS116.ge HI0.out)) | exact HB.out)) : p := h
theorem z92_5 {p : Prop} (h : p := by repeat (first | (with_reducible first | exact HK.out | apply KeepBut.set_ | apply keep_drewN | apply keep_drew | apply keep_alloc | refine keep_far ?_ GW837.out _) | exact HK.out)) : p := h
theorem z92_6 {p : Prop} (h : p := by repeat (first | (with_reducible first | exact HI0.out | apply IsS116.alloc | apply IsS116.drewN | apply IsS116.drew | apply IsS116.set_1 | refine IsS116.far ?_ NB0_837.out _) | exact HI0.out)) : p := h
theorem z92_7 {p : Prop} (h : p := by repeat (first | (with_reducible first | exact HB.out | apply below_alloc | apply pw_below_drewN | apply below_drew1 | refine below_set ?_ (IsS116.ge HI0.out) | refine below_set ?_ GE837.out) | exact HB.out)) : p := h
theorem z92_8 {p : Prop} (h : p := by repeat (first | (with_reducible first | exact HK.out | apply KeepBut.set_ | apply keep_drewN | apply keep_drew | apply keep_alloc | refine keep_far ?_ GW837.out _ | refine keep_far ?_ GW842.out _) | exact HK.out)) : p := h
theorem z92_9 {p : Prop} (h : p := by repeat (first | (with_reducible first | exact HI0.out | apply IsS116.alloc | apply IsS116.drewN | apply IsS116.drew | apply IsS116.set_1 | refine IsS116.far ?_ NB0_837.out _ | refine IsS116.far ?_ NB0_842.out _) | exact HI0.out)) : p := h
theorem z92_10 {p : Prop} (h : p := by repeat (first | (with_reducible first | exact HB.out | apply below_alloc | apply pw_below_drewN | apply below_drew1 | refine below_set ?_ (IsS116.ge HI0.out) | refine below_set ?_ GE837.out | refine below_set ?_ GE842.out) | exact HB.out)) : p := h
theorem z92_11 {p : Prop} (h : p := by (with_reducible repeat (first | refine blk_drewN ?_ _ | refine blk_drew ?_ | refine blk_alloc ?_ _)); refine blk_far ?_ NB837_842.out _; (with_reducible repeat (first | refine blk_drewN ?_ _ | refine blk_drew ?_ | refine blk_alloc ?_ _)); exact BK837.out) : p := h
theorem z92_12 {p : Prop} (h : p := by (with_reducible repeat (first | refine blk_drewN ?_ _ | refine blk_drew ?_ | refine blk_alloc ?_ _)); refine blk_put (cs := #[.slice none 0 0]) ?_ 0 _ rfl; (with_reducible repeat (first | refine blk_drewN ?_ _ | refine blk_drew ?_ | refine blk_alloc ?_ _)); exact BK842.out) : p := h
theorem z92_13 {p : Prop} (h : p := by (with_reducible repeat (first | refine blk_drewN ?_ _ | refine blk_drew ?_ | refine blk_alloc ?_ _)); refine blk_put (cs := #[.slice none 0 0]) ?_ 0 _ rfl; (with_reducible repeat (first | refine blk_drewN ?_ _ | refine blk_drew ?_ | refine blk_alloc ?_ _)); exact BK837.out) : p := h
/-! ### spec_l71Any: function 92 -/
def spec_l71Any.f (k : Nat) (s0_0 : List Int) (s0_1 : Int) : Option ((List (List (S85))) × Int) := (spec_l71Prog.f k s0_0 s0_1).bind fun bt838 => ((spec_l6Rd_pick.f k s0_0 bt838.2 16).bind fun bt843 => (if bt843.1 = 0 then ((spec_l71Bad.f k s0_0 bt843.2 bt838.1).bind fun bt845 => (some (bt845.1, bt845.2))) else (some (bt838.1, bt843.2))))
theorem spec_l71Any.mono : ∀ a0 a1 k, LeO (spec_l71Any.f k a0 a1) (spec_l71Any.f (k + 1) a0 a1) := by
  intro a0 a1 k
  unfold spec_l71Any.f
  repeat' first
      | (with_reducible exact spec_l6Rd_pick.mono _ _ _ _)
      | (with_reducible exact spec_l71Bad.mono _ _ _ _)
      | (with_reducible exact spec_l71Prog.mono _ _ _)
      | (with_reducible exact LeO.refl _)
      | (with_reducible exact LeO.none _)
      | (with_reducible refine LeO.ite ?_ ?_)
      | (with_reducible refine LeO.bind ?_ (fun _ => ?_))
      | exact spec_l6Rd_pick.mono _ _ _ _
      | exact spec_l71Bad.mono _ _ _ _
      | exact spec_l71Prog.mono _ _ _
      | exact LeO.none _
      | refine LeO.ite ?_ ?_
      | refine LeO.bind ?_ (fun _ => ?_)
set_option maxHeartbeats 8000000 in
set_option maxRecDepth 100000 in
theorem spec_l71Any.calls (k : Nat) (g : Nat) (s0_0 : List Int) (s0_1 : Int) (r1 : List (List (S85))) (r2 : Int) (w0 w : World) (hI : IsS116 w0 w g s0_0 s0_1) (hB : Below w0.heap.size w0 w) (h : spec_l71Any.f k s0_0 s0_1 = some (r1, r2)) :
  Calls Try.prog 92 #[.pointer (some ⟨g, 0, none⟩)] w fun e w' => ∃ v0_ : Value, e = .returned (.agg #[v0_]) ∧ Kd.N (Kd.slice 85 k85) 82 w' w.heap.size (fun k_ => (w.heap.size ≤ k_)) v0_ r1 ∧ IsS116 w0 w' g s0_0 r2 ∧ Below w0.heap.size w0 w' ∧ KeepBut w w' g none := by
 have hu35 := Try.underlying35
 have HI0 := am_ hI
 have HK := am_ (KeepBut.refl w g none)
 have HL := am_ hB.size
 clear hI
 have HW0 := am_ hB.size
 have HB := am_ hB
 clear hB
 have H : ((spec_l71Prog.f k s0_0 s0_1).bind fun bt838 => ((spec_l6Rd_pick.f k s0_0 bt838.2 16).bind fun bt843 => (if bt843.1 = 0 then ((spec_l71Bad.f k s0_0 bt843.2 bt838.1).bind fun bt845 => (some (bt845.1, bt845.2))) else (some (bt838.1, bt843.2))))) = some (r1, r2) := h
 clear h
 replace H := Option.bind_eq_some_iff.mp H
 obtain ⟨⟨t838, t841⟩, A20, H⟩ := H
 replace H : ((spec_l6Rd_pick.f k s0_0 t841 16).bind fun bt843 => (if bt843.1 = 0 then ((spec_l71Bad.f k s0_0 bt843.2 t838).bind fun bt845 => (some (bt845.1, bt845.2))) else (some (t838, bt843.2)))) = some (r1, r2) := H
 have A2 := am_ A20
 clear A20
 replace H := Option.bind_eq_some_iff.mp H
 obtain ⟨⟨t843, t844⟩, A30, H⟩ := H
 replace H : (if t843 = 0 then ((spec_l71Bad.f k s0_0 t844 t838).bind fun bt845 => (some (bt845.1, bt845.2))) else (some (t838, t844))) = some (r1, r2) := H
 have A3 := am_ A30
 clear A30
 by_cases c4 : t843 = 0
 ·rw [if_pos c4] at H
  have c4b0 : (t843 == 0) = true := beq_iff_eq.mpr c4
  have c4b1 : (t843 != 0) = false := bne_eq_false_iff_eq.mpr c4
  clear c4
  replace H := Option.bind_eq_some_iff.mp H
  obtain ⟨⟨t845, t848⟩, A50, H⟩ := H
  replace H : (some (t845, t848)) = some (r1, r2) := H
  have A5 := am_ A50
  clear A50
  simp only [Option.some.injEq, Prod.mk.injEq] at H
  obtain ⟨rfl, rfl⟩ := H
  go_enter Try.func92, Try.ntmps92
  go_wp2_with (first | ((with_reducible refine gate_dst (N := 2) rfl ?_); refine box_event ?hg (N := 2) ?hd (cs := #[.slice none 0 0]) (t := 35) ?hr ?_; (case hd => rfl); (case hg => rfl); (case hr => first | (go_simp; done) | (go_simp; rfl)); intro gb837 hg w6 hbox hb; have n0_ := am_ (IsS116.below z92_3 hb); have n1_ := am_ (KeepBut.trans z92_2 (KeepBut.of_below hb g none) (.inl rfl)); have n2_ := am_ (below_step z92_4 hb); have n3_ := am_ (hbox); have n4_ := am_ (by rw [hg]; exact (keep_size (w := w) (g := g) (row := none) z92_2) : w.heap.size ≤ gb837); have n5_ := am_ (Nat.le_trans HW0.out (by rw [hg]; exact (keep_size (w := w) (g := g) (row := none) z92_2) : w.heap.size ≤ gb837) : w0.heap.size ≤ gb837); have n6_ := am_ (by rw [hg]; exact Nat.ne_of_lt (IsS116.lt (show IsS116 w0 _ g s0_0 s0_1 from by repeat (first | (with_reducible first | exact HI0.out | apply IsS116.alloc | apply IsS116.drewN | apply IsS116.drew | apply IsS116.set_1) | exact HI0.out))) : g ≠ gb837); have n7_ := am_ (by rw [hg]; exact Nat.ne_of_gt (IsS116.lt (show IsS116 w0 _ g s0_0 s0_1 from by repeat (first | (with_reducible first | exact HI0.out | apply IsS116.alloc | apply IsS116.drewN | apply IsS116.drew | apply IsS116.set_1) | exact HI0.out))) : gb837 ≠ g); clear HI0 HK HB; have HI0 := n0_; have HK := n1_; have HB := n2_; have BK837 := n3_; have GW837 := n4_; have GE837 := n5_; have NB0_837 := n6_; have NB837_0 := n7_; clear n0_ n1_ n2_ n3_ n4_ n5_ n6_ n7_; clear hb hbox hg) | ((with_reducible refine gate_callee (f := 123) rfl ?_); refine goesL_ (some 5) rfl rfl Try.func123 (by kernel_rfl) rfl #[.pointer (some ⟨g, 0, none⟩)] rfl (by (try simp only [List.map_toArray, List.map_cons, List.map_nil]); first | done | rfl | (simp only [List.length_drop, List.length_take]; rfl)) ?_; (with_reducible refine (spec_l71Prog.calls k g s0_0 s0_1 t838 t841 w0 _ ?side1 ?side2 A2.out).mono ?_); (case side1 => repeat (first | (with_reducible first | exact HI0.out | apply IsS116.alloc | apply IsS116.drewN | apply IsS116.drew | apply IsS116.set_1 | refine IsS116.far ?_ NB0_837.out _) | exact HI0.out)); (case side2 => repeat (first | (with_reducible first | exact HB.out | apply below_alloc | apply pw_below_drewN | apply below_drew1 | refine below_set ?_ (IsS116.ge HI0.out) | refine below_set ?_ GE837.out) | exact HB.out)); rintro e w7 ⟨v839, rfl, ho0, hi, hb, hk⟩; refine ⟨_, rfl, ?_⟩; have n0_ := am_ (KeepBut.blk hk (bu BK837.out) NB837_0.out (by simp)); have n1_ := am_ (Kd.N_lower (Kd.N_mono (ok' := fun k_ => (w.heap.size ≤ k_) ∧ k_ ≠ gb837 ∧ k_ ≠ g) (Kd.S_N (Kd.S_bound ho0)) (fun k_ hk_ => ⟨(Nat.le_trans (keep_size (w := w) (g := g) (row := none) z92_5) hk_.2.1), (Kd.freshB (bu BK837.out) k_ hk_.2.1), (IsS116.fresh z92_6 k_ hk_.2.1)⟩)) (keep_size (w := w) (g := g) (row := none) z92_5)); have n2_ := am_ (KeepBut.trans z92_5 hk (.inl rfl)); have n3_ := am_ (hb); have n4_ := am_ (hi); clear BK837 HK HB HI0; have BK837 := n0_; have HO840 := n1_; have HK := n2_; have HB := n3_; have HI0 := n4_; clear n0_ n1_ n2_ n3_ n4_; (try clear hb); (try clear hb2); (try clear hk); (try clear hi); (try clear ho0)) | ((with_reducible refine gate_dst (N := 3) rfl ?_); refine box_event ?hg (N := 3) ?hd (cs := #[.slice none 0 0]) (t := 35) ?hr ?_; (case hd => rfl); (case hg => rfl); (case hr => first | (go_simp; done) | (go_simp; rfl)); intro gb842 hg w8 hbox hb; have n0_ := am_ (Kd.N_below (Kd.N_elderB (nu HO840.out) gb842 (Nat.le_of_eq hg.symm)) hb); have n1_ := am_ (IsS116.below z92_6 hb); have n2_ := am_ (blk_below (bu BK837.out) hb); have n3_ := am_ (KeepBut.trans z92_5 (KeepBut.of_below hb g none) (.inl rfl)); have n4_ := am_ (below_step z92_7 hb); have n5_ := am_ (hbox); have n6_ := am_ (by rw [hg]; exact (keep_size (w := w) (g := g) (row := none) z92_5) : w.heap.size ≤ gb842); have n7_ := am_ (Nat.le_trans HW0.out (by rw [hg]; exact (keep_size (w := w) (g := g) (row := none) z92_5) : w.heap.size ≤ gb842) : w0.heap.size ≤ gb842); have n8_ := am_ (by rw [hg]; exact Nat.ne_of_lt (blk_lt (bu BK837.out)) : gb837 ≠ gb842); have n9_ := am_ (by rw [hg]; exact Nat.ne_of_gt (blk_lt (bu BK837.out)) : gb842 ≠ gb837); have n10_ := am_ (by rw [hg]; exact Nat.ne_of_lt (IsS116.lt (show IsS116 w0 _ g s0_0 t841 from by repeat (first | (with_reducible first | exact HI0.out | apply IsS116.alloc | apply IsS116.drewN | apply IsS116.drew | apply IsS116.set_1 | refine IsS116.far ?_ NB0_837.out _) | exact HI0.out))) : g ≠ gb842); have n11_ := am_ (by rw [hg]; exact Nat.ne_of_gt (IsS116.lt (show IsS116 w0 _ g s0_0 t841 from by repeat (first | (with_reducible first | exact HI0.out | apply IsS116.alloc | apply IsS116.drewN | apply IsS116.drew | apply IsS116.set_1 | refine IsS116.far ?_ NB0_837.out _) | exact HI0.out))) : gb842 ≠ g); clear HO840 HI0 BK837 HK HB; have HO840 := n0_; have HI0 := n1_; have BK837 := n2_; have HK := n3_; have HB := n4_; have BK842 := n5_; have GW842 := n6_; have GE842 := n7_; have NB837_842 := n8_; have NB842_837 := n9_; have NB0_842 := n10_; have NB842_0 := n11_; clear n0_ n1_ n2_ n3_ n4_ n5_ n6_ n7_ n8_ n9_ n10_ n11_; clear hb hbox hg; obtain ⟨Ao9, co9, eo9⟩ := Kd.N_slice HO840.out; subst eo9; have hnb10 := NB842_837.out; have hnc10 := NB837_842.out; have hnb11 := NB842_0.out; have hnc11 := NB0_842.out; have hcz12_0 : w8.cell? ⟨gb842, 0, none⟩ = some (.slice none 0 0) := (blk_cell BK842.out 0).trans rfl; have hfz12_0 := blk_frozen BK842.out 0) | ((with_reducible refine gate_callee (f := 71) rfl ?_); refine goesL_ (some 7) rfl rfl Try.func71 (by kernel_rfl) rfl #[.pointer (some ⟨g, 0, none⟩), .int .i64 16] rfl (by (try simp only [List.map_toArray, List.map_cons, List.map_nil]); first | done | rfl | (simp only [List.length_drop, List.length_take]; rfl)) ?_; (with_reducible refine (spec_l6Rd_pick.calls k g s0_0 t841 16 t843 t844 w0 _ ?side1 ?side2 A3.out).mono ?_); (case side1 => repeat (first | (with_reducible first | exact HI0.out | apply IsS116.alloc | apply IsS116.drewN | apply IsS116.drew | apply IsS116.set_1 | refine IsS116.far ?_ NB0_837.out _ | refine IsS116.far ?_ NB0_842.out _) | exact HI0.out)); (case side2 => repeat (first | (with_reducible first | exact HB.out | apply below_alloc | apply pw_below_drewN | apply below_drew1 | refine below_set ?_ (IsS116.ge HI0.out) | refine below_set ?_ GE837.out | refine below_set ?_ GE842.out) | exact HB.out)); rintro e w13 ⟨rfl, hi, hb, hk⟩; refine ⟨_, rfl, ?_⟩; have n0_ := am_ (KeepBut.blk hk (g' := gb837) (o := .cells #[.slice none 0 0] 35 (0, 0)) z92_11 NB837_0.out (by simp)); have n1_ := am_ (Kd.N_mono (Kd.N_keep (Kd.N_mono (ok := fun k_ => ((((w.heap.size ≤ k_)) ∧ (k_ ≠ gb837 ∧ k_ ≠ g)) ∧ k_ ≠ gb842)) (nu (Kd.N_mono (Kd.N_far (p := ⟨gb842, 0, none⟩) (Kd.N_mono HO840.out (fun k_ hk => (⟨hk, hk.2⟩ : _ ∧ k_ ≠ gb842))) (fun _ hk => hk.2) (.slice Ao9 t838.length co9)) (fun _ h_ => h_.1))) (fun k_ hk_ => (⟨hk_, hk_.1.2.2⟩ : _ ∧ k_ ≠ g))) hk (fun _ h => h.2)) (fun _ h => h.1)); have n2_ := am_ (KeepBut.blk hk (g' := gb842) (o := .cells #[.slice Ao9 t838.length co9] 35 (0, 0)) z92_12 NB842_0.out (by simp)); have n3_ := am_ (KeepBut.trans z92_8 hk (.inl rfl)); have n4_ := am_ (hb); have n5_ := am_ (hi); clear BK837 HO840 BK842 HK HB HI0; have BK837 := n0_; have HO840 := n1_; have BK842 := n2_; have HK := n3_; have HB := n4_; have HI0 := n5_; clear n0_ n1_ n2_ n3_ n4_ n5_; (try clear hb); (try clear hb2); (try clear hk); (try clear hi); have hcz14_0 : w13.cell? ⟨gb842, 0, none⟩ = some (.slice Ao9 t838.length co9) := (blk_cell BK842.out 0).trans rfl; have hfz14_0 := blk_frozen BK842.out 0) | ((with_reducible refine gate_callee (f := 124) rfl ?_); refine goesL_ (some 11) rfl rfl Try.func124 (by kernel_rfl) rfl #[.pointer (some ⟨g, 0, none⟩), .agg #[.slice Ao9 t838.length co9]] rfl (by (try simp only [List.map_toArray, List.map_cons, List.map_nil]); first | done | rfl | (simp only [List.length_drop, List.length_take]; rfl)) ?_; (with_reducible refine (spec_l71Bad.calls k g s0_0 t844 (fun k_ => (((w.heap.size ≤ k_) ∧ (k_ ≠ gb837 ∧ k_ ≠ g)) ∧ k_ ≠ gb842)) _ _ t838 t845 t848 w0 _ ?side1 ?side2 ?side3 A5.out).mono ?_); (case side1 => repeat (first | (with_reducible first | exact HI0.out | apply IsS116.alloc | apply IsS116.drewN | apply IsS116.drew | apply IsS116.set_1 | refine IsS116.far ?_ NB0_837.out _ | refine IsS116.far ?_ NB0_842.out _) | exact HI0.out)); (case side2 => repeat (first | (with_reducible first | exact HB.out | apply below_alloc | apply pw_below_drewN | apply below_drew1 | refine below_set ?_ (IsS116.ge HI0.out) | refine below_set ?_ GE837.out | refine below_set ?_ GE842.out) | exact HB.out)); (case side3 => exact Kd.V_mono (Kd.N_V (HO840.out)) (fun k_ hk_ => ⟨hk_, hk_.1.2.2⟩)); rintro e w15 ⟨v846, rfl, ho0, hi, hb, hk⟩; refine ⟨_, rfl, ?_⟩; have n0_ := am_ (KeepBut.blk hk (bu BK837.out) NB837_0.out (by simp)); have n1_ := am_ (Kd.N_mono (Kd.N_told (Kd.N_oldK (Kd.N_mono (ok := fun k_ => ((((w.heap.size ≤ k_)) ∧ (k_ ≠ gb837 ∧ k_ ≠ g)) ∧ k_ ≠ gb842)) (nu HO840.out) (fun k_ hk_ => (⟨hk_, hk_.1.2.2⟩ : _ ∧ k_ ≠ g))) hk) (by first | exact Kd.N_base ho0 | exact Kd.S_base ho0)) (fun _ h_ => h_.1)); have n2_ := am_ (KeepBut.blk hk (bu BK842.out) NB842_0.out (by simp)); have n3_ := am_ (Kd.N_lower (Kd.N_mono (ok' := fun k_ => (w.heap.size ≤ k_) ∧ k_ ≠ gb837 ∧ k_ ≠ gb842 ∧ k_ ≠ g) ho0 (fun k_ hk_ => ⟨Or.elim hk_ (fun hs_ => hs_.1.1) (fun hn_ => (Nat.le_trans (keep_size (w := w) (g := g) (row := none) z92_8) hn_)), Or.elim hk_ (fun hs_ => hs_.1.2.1) (fun hn_ => (Kd.freshB (bu BK837.out) k_ hn_)), Or.elim hk_ (fun hs_ => hs_.2) (fun hn_ => (Kd.freshB (bu BK842.out) k_ hn_)), Or.elim hk_ (fun hs_ => hs_.1.2.2) (fun hn_ => (IsS116.fresh z92_9 k_ hn_))⟩)) (keep_size (w := w) (g := g) (row := none) z92_8)); have n4_ := am_ (KeepBut.trans z92_8 hk (.inl rfl)); have n5_ := am_ (hb); have n6_ := am_ (hi); clear BK837 HO840 BK842 HK HB HI0; have BK837 := n0_; have HO840 := n1_; have BK842 := n2_; have HO847 := n3_; have HK := n4_; have HB := n5_; have HI0 := n6_; clear n0_ n1_ n2_ n3_ n4_ n5_ n6_; (try clear hb); (try clear hb2); (try clear hk); (try clear hi); (try clear ho0); obtain ⟨Ao16, co16, eo16⟩ := Kd.N_slice HO847.out; subst eo16; have hnb17 := NB837_0.out; have hnc17 := NB0_837.out; have hcz18_0 : w15.cell? ⟨gb837, 0, none⟩ = some (.slice none 0 0) := (blk_cell BK837.out 0).trans rfl; have hfz18_0 := blk_frozen BK837.out 0))
  refine bodyPost_ret (results_cell_row rfl _ _ gb837 35 #[.slice Ao16 t845.length co16] (0, 0) _ rfl z92_13 Try.underlying35 rfl (by kernel_rfl)) rfl ?_
  exact ⟨_, z92_1, nu (Kd.N_mono (Kd.N_far (p := ⟨gb837, 0, none⟩) (Kd.N_mono HO847.out (fun k_ hk => (⟨hk, hk.2.1⟩ : _ ∧ k_ ≠ gb837))) (fun _ hk => hk.2) (.slice Ao16 t845.length co16)) (fun _ hk => hk.1.1)), z92_9, z92_10, z92_8⟩
 ·rw [if_neg c4] at H
  have c4b0 : (t843 == 0) = false := beq_eq_false_iff_ne.mpr c4
  have c4b1 : (t843 != 0) = true := bne_iff_ne.mpr c4
  simp only [Option.some.injEq, Prod.mk.injEq] at H
  obtain ⟨rfl, rfl⟩ := H
  go_enter Try.func92, Try.ntmps92
  go_wp2_with (first | ((with_reducible refine gate_dst (N := 2) rfl ?_); refine box_event ?hg (N := 2) ?hd (cs := #[.slice none 0 0]) (t := 35) ?hr ?_; (case hd => rfl); (case hg => rfl); (case hr => first | (go_simp; done) | (go_simp; rfl)); intro gb837 hg w19 hbox hb; have n0_ := am_ (IsS116.below z92_3 hb); have n1_ := am_ (KeepBut.trans z92_2 (KeepBut.of_below hb g none) (.inl rfl)); have n2_ := am_ (below_step z92_4 hb); have n3_ := am_ (hbox); have n4_ := am_ (by rw [hg]; exact (keep_size (w := w) (g := g) (row := none) z92_2) : w.heap.size ≤ gb837); have n5_ := am_ (Nat.le_trans HW0.out (by rw [hg]; exact (keep_size (w := w) (g := g) (row := none) z92_2) : w.heap.size ≤ gb837) : w0.heap.size ≤ gb837); have n6_ := am_ (by rw [hg]; exact Nat.ne_of_lt (IsS116.lt (show IsS116 w0 _ g s0_0 s0_1 from by repeat (first | (with_reducible first | exact HI0.out | apply IsS116.alloc | apply IsS116.drewN | apply IsS116.drew | apply IsS116.set_1) | exact HI0.out))) : g ≠ gb837); have n7_ := am_ (by rw [hg]; exact Nat.ne_of_gt (IsS116.lt (show IsS116 w0 _ g s0_0 s0_1 from by repeat (first | (with_reducible first | exact HI0.out | apply IsS116.alloc | apply IsS116.drewN | apply IsS116.drew | apply IsS116.set_1) | exact HI0.out))) : gb837 ≠ g); clear HI0 HK HB; have HI0 := n0_; have HK := n1_; have HB := n2_; have BK837 := n3_; have GW837 := n4_; have GE837 := n5_; have NB0_837 := n6_; have NB837_0 := n7_; clear n0_ n1_ n2_ n3_ n4_ n5_ n6_ n7_; clear hb hbox hg) | ((with_reducible refine gate_callee (f := 123) rfl ?_); refine goesL_ (some 5) rfl rfl Try.func123 (by kernel_rfl) rfl #[.pointer (some ⟨g, 0, none⟩)] rfl (by (try simp only [List.map_toArray, List.map_cons, List.map_nil]); first | done | rfl | (simp only [List.length_drop, List.length_take]; rfl)) ?_; (with_reducible refine (spec_l71Prog.calls k g s0_0 s0_1 t838 t841 w0 _ ?side1 ?side2 A2.out).mono ?_); (case side1 => repeat (first | (with_reducible first | exact HI0.out | apply IsS116.alloc | apply IsS116.drewN | apply IsS116.drew | apply IsS116.set_1 | refine IsS116.far ?_ NB0_837.out _) | exact HI0.out)); (case side2 => repeat (first | (with_reducible first | exact HB.out | apply below_alloc | apply pw_below_drewN | apply below_drew1 | refine below_set ?_ (IsS116.ge HI0.out) | refine below_set ?_ GE837.out) | exact HB.out)); rintro e w20 ⟨v839, rfl, ho0, hi, hb, hk⟩; refine ⟨_, rfl, ?_⟩; have n0_ := am_ (KeepBut.blk hk (bu BK837.out) NB837_0.out (by simp)); have n1_ := am_ (Kd.N_lower (Kd.N_mono (ok' := fun k_ => (w.heap.size ≤ k_) ∧ k_ ≠ gb837 ∧ k_ ≠ g) (Kd.S_N (Kd.S_bound ho0)) (fun k_ hk_ => ⟨(Nat.le_trans (keep_size (w := w) (g := g) (row := none) z92_5) hk_.2.1), (Kd.freshB (bu BK837.out) k_ hk_.2.1), (IsS116.fresh z92_6 k_ hk_.2.1)⟩)) (keep_size (w := w) (g := g) (row := none) z92_5)); have n2_ := am_ (KeepBut.trans z92_5 hk (.inl rfl)); have n3_ := am_ (hb); have n4_ := am_ (hi); clear BK837 HK HB HI0; have BK837 := n0_; have HO840 := n1_; have HK := n2_; have HB := n3_; have HI0 := n4_; clear n0_ n1_ n2_ n3_ n4_; (try clear hb); (try clear hb2); (try clear hk); (try clear hi); (try clear ho0)) | ((with_reducible refine gate_dst (N := 3) rfl ?_); refine box_event ?hg (N := 3) ?hd (cs := #[.slice none 0 0]) (t := 35) ?hr ?_; (case hd => rfl); (case hg => rfl); (case hr => first | (go_simp; done) | (go_simp; rfl)); intro gb842 hg w21 hbox hb; have n0_ := am_ (Kd.N_below (Kd.N_elderB (nu HO840.out) gb842 (Nat.le_of_eq hg.symm)) hb); have n1_ := am_ (IsS116.below z92_6 hb); have n2_ := am_ (blk_below (bu BK837.out) hb); have n3_ := am_ (KeepBut.trans z92_5 (KeepBut.of_below hb g none) (.inl rfl)); have n4_ := am_ (below_step z92_7 hb); have n5_ := am_ (hbox); have n6_ := am_ (by rw [hg]; exact (keep_size (w := w) (g := g) (row := none) z92_5) : w.heap.size ≤ gb842); have n7_ := am_ (Nat.le_trans HW0.out (by rw [hg]; exact (keep_size (w := w) (g := g) (row := none) z92_5) : w.heap.size ≤ gb842) : w0.heap.size ≤ gb842); have n8_ := am_ (by rw [hg]; exact Nat.ne_of_lt (blk_lt (bu BK837.out)) : gb837 ≠ gb842); have n9_ := am_ (by rw [hg]; exact Nat.ne_of_gt (blk_lt (bu BK837.out)) : gb842 ≠ gb837); have n10_ := am_ (by rw [hg]; exact Nat.ne_of_lt (IsS116.lt (show IsS116 w0 _ g s0_0 t841 from by repeat (first | (with_reducible first | exact HI0.out | apply IsS116.alloc | apply IsS116.drewN | apply IsS116.drew | apply IsS116.set_1 | refine IsS116.far ?_ NB0_837.out _) | exact HI0.out))) : g ≠ gb842); have n11_ := am_ (by rw [hg]; exact Nat.ne_of_gt (IsS116.lt (show IsS116 w0 _ g s0_0 t841 from by repeat (first | (with_reducible first | exact HI0.out | apply IsS116.alloc | apply IsS116.drewN | apply IsS116.drew | apply IsS116.set_1 | refine IsS116.far ?_ NB0_837.out _) | exact HI0.out))) : gb842 ≠ g); clear HO840 HI0 BK837 HK HB; have HO840 := n0_; have HI0 := n1_; have BK837 := n2_; have HK := n3_; have HB := n4_; have BK842 := n5_; have GW842 := n6_; have GE842 := n7_; have NB837_842 := n8_; have NB842_837 := n9_; have NB0_842 := n10_; have NB842_0 := n11_; clear n0_ n1_ n2_ n3_ n4_ n5_ n6_ n7_ n8_ n9_ n10_ n11_; clear hb hbox hg; obtain ⟨Ao22, co22, eo22⟩ := Kd.N_slice HO840.out; subst eo22; have hnb23 := NB842_837.out; have hnc23 := NB837_842.out; have hnb24 := NB842_0.out; have hnc24 := NB0_842.out; have hcz25_0 : w21.cell? ⟨gb842, 0, none⟩ = some (.slice none 0 0) := (blk_cell BK842.out 0).trans rfl; have hfz25_0 := blk_frozen BK842.out 0) | ((with_reducible refine gate_callee (f := 71) rfl ?_); refine goesL_ (some 7) rfl rfl Try.func71 (by kernel_rfl) rfl #[.pointer (some ⟨g, 0, none⟩), .int .i64 16] rfl (by (try simp only [List.map_toArray, List.map_cons, List.map_nil]); first | done | rfl | (simp only [List.length_drop, List.length_take]; rfl)) ?_; (with_reducible refine (spec_l6Rd_pick.calls k g s0_0 t841 16 t843 t844 w0 _ ?side1 ?side2 A3.out).mono ?_); (case side1 => repeat (first | (with_reducible first | exact HI0.out | apply IsS116.alloc | apply IsS116.drewN | apply IsS116.drew | apply IsS116.set_1 | refine IsS116.far ?_ NB0_837.out _ | refine IsS116.far ?_ NB0_842.out _) | exact HI0.out)); (case side2 => repeat (first | (with_reducible first | exact HB.out | apply below_alloc | apply pw_below_drewN | apply below_drew1 | refine below_set ?_ (IsS116.ge HI0.out) | refine below_set ?_ GE837.out | refine below_set ?_ GE842.out) | exact HB.out)); rintro e w26 ⟨rfl, hi, hb, hk⟩; refine ⟨_, rfl, ?_⟩; have n0_ := am_ (KeepBut.blk hk (g' := gb837) (o := .cells #[.slice none 0 0] 35 (0, 0)) z92_11 NB837_0.out (by simp)); have n1_ := am_ (Kd.N_mono (Kd.N_keep (Kd.N_mono (ok := fun k_ => ((((w.heap.size ≤ k_)) ∧ (k_ ≠ gb837 ∧ k_ ≠ g)) ∧ k_ ≠ gb842)) (nu (Kd.N_mono (Kd.N_far (p := ⟨gb842, 0, none⟩) (Kd.N_mono HO840.out (fun k_ hk => (⟨hk, hk.2⟩ : _ ∧ k_ ≠ gb842))) (fun _ hk => hk.2) (.slice Ao22 t838.length co22)) (fun _ h_ => h_.1))) (fun k_ hk_ => (⟨hk_, hk_.1.2.2⟩ : _ ∧ k_ ≠ g))) hk (fun _ h => h.2)) (fun _ h => h.1)); have n2_ := am_ (KeepBut.blk hk (g' := gb842) (o := .cells #[.slice Ao22 t838.length co22] 35 (0, 0)) z92_12 NB842_0.out (by simp)); have n3_ := am_ (KeepBut.trans z92_8 hk (.inl rfl)); have n4_ := am_ (hb); have n5_ := am_ (hi); clear BK837 HO840 BK842 HK HB HI0; have BK837 := n0_; have HO840 := n1_; have BK842 := n2_; have HK := n3_; have HB := n4_; have HI0 := n5_; clear n0_ n1_ n2_ n3_ n4_ n5_; (try clear hb); (try clear hb2); (try clear hk); (try clear hi); have hcz27_0 : w26.cell? ⟨gb842, 0, none⟩ = some (.slice Ao22 t838.length co22) := (blk_cell BK842.out 0).trans rfl; have hfz27_0 := blk_frozen BK842.out 0; have hnb28 := NB837_0.out; have hnc28 := NB0_837.out; have hcz29_0 : w26.cell? ⟨gb837, 0, none⟩ = some (.slice none 0 0) := (blk_cell BK837.out 0).trans rfl; have hfz29_0 := blk_frozen BK837.out 0))
  refine bodyPost_ret (results_cell_row rfl _ _ gb837 35 #[.slice Ao22 t838.length co22] (0, 0) _ rfl z92_13 Try.underlying35 rfl (by kernel_rfl)) rfl ?_
  exact ⟨_, z92_1, nu (Kd.N_mono (Kd.N_far (p := ⟨gb837, 0, none⟩) (Kd.N_mono HO840.out (fun k_ hk => (⟨hk, hk.1.2.1⟩ : _ ∧ k_ ≠ gb837))) (fun _ hk => hk.2) (.slice Ao22 t838.length co22)) (fun _ hk => hk.1.1.1)), z92_9, z92_10, z92_8⟩

end Go.Proofs.Ytefkbmhkhpekjaa.PB

namespace Go.Proofs.Ytefkbmhkhpekjaa.PB
open Go.RowKit Go.Proofs.YtefkbmhkhpekjaaW.PrintWords Go.Proofs.YtefkbmhkhpekjaaW.PrintLast Go.Proofs.YtefkbmhkhpekjaaW.PrintMore
attribute [local go_sem] max2_int min2_int max_two min_two max_three min_three max_four min_four   -- for this text's walks alone
open Go.Proofs.YtefkbmhkhpekjaaMine
set_option linter.unusedVariables false
set_option linter.unusedSimpArgs false

theorem z41_1 {p : Prop} (h : p := by repeat (first | (with_reducible first | exact HB.out | apply below_alloc | apply pw_below_drewN | apply below_drew1) | exact HB.out)) : p := h
theorem z41_2 {p : Prop} (h : p := by repeat (first | (with_reducible first | exact HB.out | apply below_alloc | apply pw_below_drewN | apply below_drew1 | refine below_set ?_ (IsS116.ge HI852.out) | refine below_set ?_ GE849.out) | exact HB.out)) : p := h
/-! ### spec_DrawTurnPlain: function 41 -/
def spec_DrawTurnPlain.f (k : Nat) (l0 : List Int) : Option ((List (List (S85)))) := (spec_l6Open.f l0).bind fun bt850 => ((spec_l71Any.f k bt850.1 bt850.2).bind fun bt853 => (some bt853.1))
theorem spec_DrawTurnPlain.mono : ∀ a0 k, LeO (spec_DrawTurnPlain.f k a0) (spec_DrawTurnPlain.f (k + 1) a0) := by
  intro a0 k
  unfold spec_DrawTurnPlain.f
  repeat' first
      | (with_reducible exact spec_l71Any.mono _ _ _)
      | (with_reducible exact LeO.refl _)
      | (with_reducible exact LeO.none _)
      | (with_reducible refine LeO.ite ?_ ?_)
      | (with_reducible refine LeO.bind ?_ (fun _ => ?_))
      | exact spec_l71Any.mono _ _ _
      | exact LeO.none _
      | refine LeO.ite ?_ ?_
      | refine LeO.bind ?_ (fun _ => ?_)
set_option maxHeartbeats 8000000 in
set_option maxRecDepth 100000 in
theorem spec_DrawTurnPlain.calls (k : Nat) (A0 : Option Addr) (c0 : Nat) (l0 : List Int) (r : List (List (S85))) (w : World) (hr0 : Kd.C (Kd.int .u8) w A0 l0.length l0) (hc0 : l0.length ≤ c0) (h : spec_DrawTurnPlain.f k l0 = some r) :
  Calls Try.prog 41 #[.slice A0 l0.length c0] w fun e w' => ∃ v0_ : Value, e = .returned (.agg #[v0_]) ∧ Kd.N (Kd.slice 85 k85) 82 w' w.heap.size (fun k_ => (w.heap.size ≤ k_)) v0_ r ∧ Below w.heap.size w w' := by
 have hu35 := Try.underlying35
 have HR0 := am_ hr0
 have HC0 := am_ hc0
 clear hr0 hc0
 have HB := am_ (Below.refl w.heap.size w)
 have H : ((spec_l6Open.f l0).bind fun bt850 => ((spec_l71Any.f k bt850.1 bt850.2).bind fun bt853 => (some bt853.1))) = some r := h
 clear h
 replace H := Option.bind_eq_some_iff.mp H
 obtain ⟨⟨t850, t851⟩, A20, H⟩ := H
 replace H : ((spec_l71Any.f k t850 t851).bind fun bt853 => (some bt853.1)) = some r := H
 have A2 := am_ A20
 clear A20
 replace H := Option.bind_eq_some_iff.mp H
 obtain ⟨⟨t853, t856⟩, A30, H⟩ := H
 replace H : (some t853) = some r := H
 have A3 := am_ A30
 clear A30
 obtain rfl := Option.some.inj H
 go_enter Try.func41, Try.ntmps41
 go_wp2_with (first | ((with_reducible refine gate_dst (N := 2) rfl ?_); refine box_event ?hg (N := 2) ?hd (cs := #[.slice none 0 0]) (t := 35) ?hr ?_; (case hd => rfl); (case hg => rfl); (case hr => first | (go_simp; done) | (go_simp; rfl)); intro gb849 hg w4 hbox hb; have n0_ := am_ (below_step z41_1 hb); have n1_ := am_ (hbox); have n2_ := am_ (by rw [hg]; exact (below_size z41_1) : w.heap.size ≤ gb849); have n3_ := am_ (by rw [hg]; exact (below_size z41_1) : w.heap.size ≤ gb849); clear HB; have HB := n0_; have BK849 := n1_; have GW849 := n2_; have GE849 := n3_; clear n0_ n1_ n2_ n3_; clear hb hbox hg) | ((with_reducible refine gate_callee (f := 70) rfl ?_); refine goesL_ (some 4) rfl rfl Try.func70 (by kernel_rfl) rfl #[.slice A0 l0.length c0] rfl (by (try simp only [List.map_toArray, List.map_cons, List.map_nil]); first | done | rfl | (simp only [List.length_drop, List.length_take]; rfl)) ?_; (with_reducible refine (spec_l6Open.calls _ _ l0 t850 t851 w _ ?side1 ?side2 ?side3 A2.out).mono ?_); (case side1 => repeat (first | (with_reducible first | exact HB.out | apply below_alloc | apply pw_below_drewN | apply below_drew1 | refine below_set ?_ GE849.out) | exact HB.out)); (case side2 => exact HR0.out); (case side3 => exact HC0.out); rintro e w5 ⟨g852, rfl, hi, hb, hb2⟩; refine ⟨_, rfl, ?_⟩; have n0_ := am_ (blk_below (bu BK849.out) hb2); have n1_ := am_ (hb); have n2_ := am_ (hi); have n3_ := am_ (IsS116.ne_blk hi (blk_below (bu BK849.out) hb2) (by decide)); have n4_ := am_ (Ne.symm (IsS116.ne_blk hi (blk_below (bu BK849.out) hb2) (by decide))); clear BK849 HB; have BK849 := n0_; have HB := n1_; have HI852 := n2_; have NB852_849 := n3_; have NB849_852 := n4_; clear n0_ n1_ n2_ n3_ n4_; (try clear hb); (try clear hb2); (try clear hk); (try clear hi)) | ((with_reducible refine gate_callee (f := 92) rfl ?_); refine goesL_ (some 5) rfl rfl Try.func92 (by kernel_rfl) rfl #[.pointer (some ⟨g852, 0, none⟩)] rfl (by (try simp only [List.map_toArray, List.map_cons, List.map_nil]); first | done | rfl | (simp only [List.length_drop, List.length_take]; rfl)) ?_; (with_reducible refine (spec_l71Any.calls k g852 t850 t851 t853 t856 w _ ?side1 ?side2 A3.out).mono ?_); (case side1 => repeat (first | (with_reducible first | exact HI852.out | apply IsS116.alloc | apply IsS116.drewN | apply IsS116.drew | apply IsS116.set_1 | refine IsS116.far ?_ NB852_849.out _) | exact HI852.out)); (case side2 => repeat (first | (with_reducible first | exact HB.out | apply below_alloc | apply pw_below_drewN | apply below_drew1 | refine below_set ?_ (IsS116.ge HI852.out) | refine below_set ?_ GE849.out) | exact HB.out)); rintro e w6 ⟨v854, rfl, ho0, hi, hb, hk⟩; refine ⟨_, rfl, ?_⟩; have n0_ := am_ (KeepBut.blk hk (bu BK849.out) NB849_852.out (by simp)); have n1_ := am_ (Kd.N_lower (Kd.N_mono (ok' := fun k_ => (w.heap.size ≤ k_) ∧ k_ ≠ gb849 ∧ k_ ≠ g852) ho0 (fun k_ hk_ => ⟨(Nat.le_trans (below_size z41_2) hk_), (Kd.freshB (bu BK849.out) k_ hk_), (IsS116.fresh (by repeat (first | (with_reducible first | exact HI852.out | apply IsS116.alloc | apply IsS116.drewN | apply IsS116.drew | apply IsS116.set_1 | refine IsS116.far ?_ NB852_849.out _) | exact HI852.out)) k_ hk_)⟩)) (below_size z41_2)); have n2_ := am_ (hb); have n3_ := am_ (hi); clear BK849 HB HI852; have BK849 := n0_; have HO855 := n1_; have HB := n2_; have HI852 := n3_; clear n0_ n1_ n2_ n3_; (try clear hb); (try clear hb2); (try clear hk); (try clear hi); (try clear ho0); obtain ⟨Ao7, co7, eo7⟩ := Kd.N_slice HO855.out; subst eo7; have hnb8 := NB849_852.out; have hnc8 := NB852_849.out; have hcz9_0 : w6.cell? ⟨gb849, 0, none⟩ = some (.slice none 0 0) := (blk_cell BK849.out 0).trans rfl; have hfz9_0 := blk_frozen BK849.out 0))
 refine bodyPost_ret (results_cell_row rfl _ _ gb849 35 #[.slice Ao7 t853.length co7] (0, 0) _ rfl (by (with_reducible repeat (first | refine blk_drewN ?_ _ | refine blk_drew ?_ | refine blk_alloc ?_ _)); refine blk_put (cs := #[.slice none 0 0]) ?_ 0 _ rfl; (with_reducible repeat (first | refine blk_drewN ?_ _ | refine blk_drew ?_ | refine blk_alloc ?_ _)); exact BK849.out) Try.underlying35 rfl (by kernel_rfl)) rfl ?_
 exact ⟨_, by first | rfl | (simp [errW_none, errW_some] <;> rfl) | (simp [*, errW_none, errW_some] <;> rfl), nu (Kd.N_mono (Kd.N_far (p := ⟨gb849, 0, none⟩) (Kd.N_mono HO855.out (fun k_ hk => (⟨hk, hk.2.1⟩ : _ ∧ k_ ≠ gb849))) (fun _ hk => hk.2) (.slice Ao7 t853.length co7)) (fun _ hk => hk.1.1)), z41_2⟩

end Go.Proofs.Ytefkbmhkhpekjaa.PB

namespace Go.Proofs.Ytefkbmhkhpekjaa.PB
open Go.RowKit Go.Proofs.YtefkbmhkhpekjaaW.PrintWords Go.Proofs.YtefkbmhkhpekjaaW.PrintLast Go.Proofs.YtefkbmhkhpekjaaW.PrintMore
attribute [local go_sem] max2_int min2_int max_two min_two max_three min_three max_four min_four   -- for this text's walks alone
open Go.Proofs.YtefkbmhkhpekjaaMine
set_option linter.unusedVariables false
set_option linter.unusedSimpArgs false

theorem z42_1 {p : Prop} (h : p := by first | rfl | (simp; done) | (simp [*]; done)) : p := h
theorem z42_2 {p : Prop} (h : p := by first | (with_reducible assumption) | assumption) : p := h
theorem z42_3 {p : Prop} (h : p := by repeat (first | (with_reducible first | exact HB.out | apply below_alloc | apply pw_below_drewN | apply below_drew1) | exact HB.out)) : p := h
theorem z42_4 {p : Prop} (h : p := by repeat (first | (with_reducible first | exact HB.out | apply below_alloc | apply pw_below_drewN | apply below_drew1 | refine below_set ?_ GE857.out) | exact HB.out)) : p := h
theorem z42_5 {p : Prop} (h : p := by repeat (first | (with_reducible first | exact HB.out | apply below_alloc | apply pw_below_drewN | apply below_drew1 | refine below_set ?_ GE857.out | refine below_set ?_ GE858.out) | exact HB.out)) : p := h
theorem z42_6 {p : Prop} (h : p := by repeat (first | (with_reducible first | exact HB.out | apply below_alloc | apply pw_below_drewN | apply below_drew1 | refine below_set ?_ GE857.out | refine below_set ?_ GE858.out | refine below_set ?_ GE859.out) | exact HB.out)) : p := h
theorem z42_7 {p : Prop} (h : p := by (with_reducible repeat (first | refine blk_drewN ?_ _ | refine blk_drew ?_ | refine blk_alloc ?_ _)); refine blk_far ?_ NB857_859.out _; (with_reducible repeat (first | refine blk_drewN ?_ _ | refine blk_drew ?_ | refine blk_alloc ?_ _)); exact BK857.out) : p := h
theorem z42_8 {p : Prop} (h : p := by (with_reducible repeat (first | refine blk_drewN ?_ _ | refine blk_drew ?_ | refine blk_alloc ?_ _)); refine blk_far ?_ NB858_859.out _; (with_reducible repeat (first | refine blk_drewN ?_ _ | refine blk_drew ?_ | refine blk_alloc ?_ _)); exact BK858.out) : p := h
/-! ### spec_TurnPlain: function 42 -/
mutual
def spec_TurnPlain.l0 : Nat → Int → List (List (S85)) → List (List (S85)) → Option ((List (List (S85))))
  | 0, _, _, _ => none
  | k + 1, x4, x858000, x860000 => if x4 < (x858000.length : Int) then ((spec_ProgOk.f k x858000).bind fun t860 => (spec_TurnPlain.j1 k x4 t860 x858000 x860000)) else (spec_TurnPlain.j1 k x4 false x858000 x860000)
def spec_TurnPlain.j1 : Nat → Int → Bool → List (List (S85)) → List (List (S85)) → Option ((List (List (S85))))
  | 0, _, _, _, _ => none
  | k + 1, x4, x16, x858000, x860000 => if x16 = true then ((some (([] : List (S85)) : List (S85))).bind fun y861 => (if 0 ≤ x4 then (if x4 < (x858000.length : Int) then (if y861.length + (rd_L7 x858000 x4).length < 5864062014805 then (spec_TurnPlain.l1 k x4 (y861 ++ (rd_L7 x858000 x4)) 0 x858000 x860000) else (none)) else (none)) else (none))) else (some x860000)
def spec_TurnPlain.l1 : Nat → Int → List (S85) → Int → List (List (S85)) → List (List (S85)) → Option ((List (List (S85))))
  | 0, _, _, _, _, _ => none
  | k + 1, x4, x5, x6, x858000, x860000 => if x6 < (x5.length : Int) then (if 0 ≤ x6 then (if ((rd_T85 x5 x6).f0) = 5 then (spec_TurnPlain.l1 k x4 (x5.set (x6 : Int).toNat (⟨2, (rd_T85 x5 x6).f1, (rd_T85 x5 x6).f2⟩ : S85)) (wrap64 (x6 + 1)) x858000 x860000) else (if ((rd_T85 x5 x6).f0) = 6 then (spec_TurnPlain.l1 k x4 (x5.set (x6 : Int).toNat (⟨1, (rd_T85 x5 x6).f1, (rd_T85 x5 x6).f2⟩ : S85)) (wrap64 (x6 + 1)) x858000 x860000) else (spec_TurnPlain.l1 k x4 x5 (wrap64 (x6 + 1)) x858000 x860000))) else (none)) else (if x860000.length < 5864062014805 then (spec_TurnPlain.l0 k (wrap64 (x4 + 1)) x858000 (x860000 ++ [x5])) else (none))
end
def spec_TurnPlain.f (k : Nat) (l0_0 : List (List (S85))) : Option ((List (List (S85)))) := spec_TurnPlain.l0 k 0 l0_0 ([] : List (List (S85)))
theorem spec_TurnPlain.mono_l : ∀ k, (∀ y0 y1 y2, LeO (spec_TurnPlain.l0 k y0 y1 y2) (spec_TurnPlain.l0 (k + 1) y0 y1 y2)) ∧ (∀ y0 y1 y2 y3, LeO (spec_TurnPlain.j1 k y0 y1 y2 y3) (spec_TurnPlain.j1 (k + 1) y0 y1 y2 y3)) ∧ (∀ y0 y1 y2 y3 y4, LeO (spec_TurnPlain.l1 k y0 y1 y2 y3 y4) (spec_TurnPlain.l1 (k + 1) y0 y1 y2 y3 y4))
  | 0 => ⟨fun _ _ _ r h => by simp [spec_TurnPlain.l0] at h, fun _ _ _ _ r h => by simp [spec_TurnPlain.j1] at h, fun _ _ _ _ _ r h => by simp [spec_TurnPlain.l1] at h⟩
  | k + 1 => by
    obtain ⟨ih0, ih1, ih2⟩ := spec_TurnPlain.mono_l k
    refine ⟨?_, ?_, ?_⟩
    · intro y0 y1 y2
      unfold spec_TurnPlain.l0
      repeat' first
      | (with_reducible exact ih0 _ _ _)
      | (with_reducible exact ih1 _ _ _ _)
      | (with_reducible exact ih2 _ _ _ _ _)
      | (with_reducible exact spec_ProgOk.mono _ _)
      | (with_reducible exact LeO.refl _)
      | (with_reducible exact LeO.none _)
      | (with_reducible refine LeO.ite ?_ ?_)
      | (with_reducible refine LeO.bind ?_ (fun _ => ?_))
      | exact ih0 _ _ _
      | exact ih1 _ _ _ _
      | exact ih2 _ _ _ _ _
      | exact spec_ProgOk.mono _ _
      | exact LeO.none _
      | refine LeO.ite ?_ ?_
      | refine LeO.bind ?_ (fun _ => ?_)
    · intro y0 y1 y2 y3
      unfold spec_TurnPlain.j1
      repeat' first
      | (with_reducible exact ih0 _ _ _)
      | (with_reducible exact ih1 _ _ _ _)
      | (with_reducible exact ih2 _ _ _ _ _)
      | (with_reducible exact spec_ProgOk.mono _ _)
      | (with_reducible exact LeO.refl _)
      | (with_reducible exact LeO.none _)
      | (with_reducible refine LeO.ite ?_ ?_)
      | (with_reducible refine LeO.bind ?_ (fun _ => ?_))
      | exact ih0 _ _ _
      | exact ih1 _ _ _ _
      | exact ih2 _ _ _ _ _
      | exact spec_ProgOk.mono _ _
      | exact LeO.none _
      | refine LeO.ite ?_ ?_
      | refine LeO.bind ?_ (fun _ => ?_)
    · intro y0 y1 y2 y3 y4
      unfold spec_TurnPlain.l1
      repeat' first
      | (with_reducible exact ih0 _ _ _)
      | (with_reducible exact ih1 _ _ _ _)
      | (with_reducible exact ih2 _ _ _ _ _)
      | (with_reducible exact spec_ProgOk.mono _ _)
      | (with_reducible exact LeO.refl _)
      | (with_reducible exact LeO.none _)
      | (with_reducible refine LeO.ite ?_ ?_)
      | (with_reducible refine LeO.bind ?_ (fun _ => ?_))
      | exact ih0 _ _ _
      | exact ih1 _ _ _ _
      | exact ih2 _ _ _ _ _
      | exact spec_ProgOk.mono _ _
      | exact LeO.none _
      | refine LeO.ite ?_ ?_
      | refine LeO.bind ?_ (fun _ => ?_)
theorem spec_TurnPlain.mono : ∀ a0 k, LeO (spec_TurnPlain.f k a0) (spec_TurnPlain.f (k + 1) a0) := by
  intro a0 k
  obtain ⟨ih0, ih1, ih2⟩ := spec_TurnPlain.mono_l k
  unfold spec_TurnPlain.f
  repeat' first
      | (with_reducible exact ih0 _ _ _)
      | (with_reducible exact ih1 _ _ _ _)
      | (with_reducible exact ih2 _ _ _ _ _)
      | (with_reducible exact spec_ProgOk.mono _ _)
      | (with_reducible exact LeO.refl _)
      | (with_reducible exact LeO.none _)
      | (with_reducible refine LeO.ite ?_ ?_)
      | (with_reducible refine LeO.bind ?_ (fun _ => ?_))
      | exact ih0 _ _ _
      | exact ih1 _ _ _ _
      | exact ih2 _ _ _ _ _
      | exact spec_ProgOk.mono _ _
      | exact LeO.none _
      | refine LeO.ite ?_ ?_
      | refine LeO.bind ?_ (fun _ => ?_)
set_option maxHeartbeats 8000000 in
set_option maxRecDepth 100000 in
theorem spec_TurnPlain.calls (k : Nat) (A0_0 : Option Addr) (c0_0 : Nat) (l0_0 : List (List (S85))) (r : List (List (S85))) (w : World) (hr0_0 : Kd.C (Kd.slice 85 k85) w A0_0 l0_0.length l0_0) (hc0_0 : l0_0.length ≤ c0_0) (h : spec_TurnPlain.f k l0_0 = some r) :
  Calls Try.prog 42 #[.agg #[.slice A0_0 l0_0.length c0_0]] w fun e w' => ∃ v0_ : Value, e = .returned (.agg #[v0_]) ∧ Kd.S (Kd.slice 85 k85) 82 w' w.heap.size (fun _ => True) v0_ r ∧ Below w.heap.size w w' := by
 have hu35 := Try.underlying35
 have HR0_0 := am_ hr0_0
 have HC0_0 := am_ hc0_0
 clear hr0_0 hc0_0
 have HB := am_ (Below.refl w.heap.size w)
 have H : (spec_TurnPlain.l0 k 0 l0_0 ([] : List (List (S85)))) = some r := h
 clear h
 have H' := am_ H
 clear H
 go_enter Try.func42, Try.ntmps42
 go_wp2_with (first | ((with_reducible refine gate_dst (N := 1) rfl ?_); refine box_event ?hg (N := 1) ?hd (cs := #[.slice A0_0 l0_0.length c0_0]) (t := 35) ?hr ?_; (case hd => rfl); (case hg => rfl); (case hr => first | (go_simp; done) | (go_simp; rfl)); intro gb857 hg w2 hbox hb; have n0_ := am_ (below_step z42_3 hb); have n1_ := am_ (hbox); have n2_ := am_ (by rw [hg]; exact (below_size z42_3) : w.heap.size ≤ gb857); have n3_ := am_ (by rw [hg]; exact (below_size z42_3) : w.heap.size ≤ gb857); clear HB; have HB := n0_; have BK857 := n1_; have GW857 := n2_; have GE857 := n3_; clear n0_ n1_ n2_ n3_; clear hb hbox hg) | ((with_reducible refine gate_dst (N := 2) rfl ?_); refine box_event ?hg (N := 2) ?hd (cs := #[.slice none 0 0]) (t := 35) ?hr ?_; (case hd => rfl); (case hg => rfl); (case hr => first | (go_simp; done) | (go_simp; rfl)); intro gb858 hg w3 hbox hb; have n0_ := am_ (blk_below (bu BK857.out) hb); have n1_ := am_ (below_step z42_4 hb); have n2_ := am_ (hbox); have n3_ := am_ (by rw [hg]; exact (below_size z42_4) : w.heap.size ≤ gb858); have n4_ := am_ (by rw [hg]; exact (below_size z42_4) : w.heap.size ≤ gb858); have n5_ := am_ (by rw [hg]; exact Nat.ne_of_lt (blk_lt (bu BK857.out)) : gb857 ≠ gb858); have n6_ := am_ (by rw [hg]; exact Nat.ne_of_gt (blk_lt (bu BK857.out)) : gb858 ≠ gb857); clear BK857 HB; have BK857 := n0_; have HB := n1_; have BK858 := n2_; have GW858 := n3_; have GE858 := n4_; have NB857_858 := n5_; have NB858_857 := n6_; clear n0_ n1_ n2_ n3_ n4_ n5_ n6_; clear hb hbox hg) | ((with_reducible refine gate_dst (N := 3) rfl ?_); refine box_event ?hg (N := 3) ?hd (cs := #[.slice none 0 0]) (t := 35) ?hr ?_; (case hd => rfl); (case hg => rfl); (case hr => first | (go_simp; done) | (go_simp; rfl)); intro gb859 hg w4 hbox hb; have n0_ := am_ (blk_below (bu BK857.out) hb); have n1_ := am_ (blk_below (bu BK858.out) hb); have n2_ := am_ (below_step z42_5 hb); have n3_ := am_ (hbox); have n4_ := am_ (by rw [hg]; exact (below_size z42_5) : w.heap.size ≤ gb859); have n5_ := am_ (by rw [hg]; exact (below_size z42_5) : w.heap.size ≤ gb859); have n6_ := am_ (by rw [hg]; exact Nat.ne_of_lt (blk_lt (bu BK857.out)) : gb857 ≠ gb859); have n7_ := am_ (by rw [hg]; exact Nat.ne_of_gt (blk_lt (bu BK857.out)) : gb859 ≠ gb857); have n8_ := am_ (by rw [hg]; exact Nat.ne_of_lt (blk_lt (bu BK858.out)) : gb858 ≠ gb859); have n9_ := am_ (by rw [hg]; exact Nat.ne_of_gt (blk_lt (bu BK858.out)) : gb859 ≠ gb858); clear BK857 BK858 HB; have BK857 := n0_; have BK858 := n1_; have HB := n2_; have BK859 := n3_; have GW859 := n4_; have GE859 := n5_; have NB857_859 := n6_; have NB859_857 := n7_; have NB858_859 := n8_; have NB859_858 := n9_; clear n0_ n1_ n2_ n3_ n4_ n5_ n6_ n7_ n8_ n9_; clear hb hbox hg; have hnb5 := NB859_857.out; have hnc5 := NB857_859.out; have hnb6 := NB859_858.out; have hnc6 := NB858_859.out; have hcz7_0 : w4.cell? ⟨gb859, 0, none⟩ = some (.slice none 0 0) := (blk_cell BK859.out 0).trans rfl; have hfz7_0 := blk_frozen BK859.out 0))
 go_loopg [4] k (fun kq v4 w' => ∃ (x4_1 : Int) (x860000_1 : List (List (S85))) (u860000 : Value), v4 = .int .i64 x4_1 ∧ Aside0 (spec_TurnPlain.l0 kq x4_1 l0_0 x860000_1 = some r) ∧ Aside0 (kq ≤ k) ∧ Aside0 (Kd.S (Kd.slice 85 k85) 82 w' w.heap.size (fun _ => True) u860000 x860000_1) ∧ Aside0 (w'.heap[gb857]? = some (.cells #[(.slice A0_0 l0_0.length c0_0)] 35 (0, 0))) ∧ Aside0 (w'.heap[gb858]? = some (.cells #[(.slice none 0 0)] 35 (0, 0))) ∧ Aside0 (w'.heap[gb859]? = some (.cells #[u860000] 35 (0, 0))) ∧ Aside0 (Below w.heap.size w w'))
 case atStart => exact ⟨(0), (([] : List (List (S85)))), (.slice none 0 0), z42_1, H', ⟨Nat.le_refl _⟩, ⟨by first | exact Kd.S_nil _ _ _ _ _ | exact Kd.N_nil _ _ _ _ _ | exact Kd.V_nil _ _ _ _ _ | exact Kd.Q_nil _ _ _ _ _ | exact Kd.R_nil _ _ _ _ _⟩, ⟨z42_7⟩, ⟨z42_8⟩, ⟨by (with_reducible repeat (first | refine blk_drewN ?_ _ | refine blk_drew ?_ | refine blk_alloc ?_ _)); refine blk_put (cs := #[.slice none 0 0]) ?_ 0 _ rfl; (with_reducible repeat (first | refine blk_drewN ?_ _ | refine blk_drew ?_ | refine blk_alloc ?_ _)); exact BK859.out⟩, ⟨z42_6⟩⟩
 case round =>
  clear H'
  obtain ⟨x4_1, x860000_1, u860000, rfl, HA, HK1, HO_860000, BK857, BK858, BK859, HB⟩ := hrel
  cases gk with
  | zero => exact absurd HA.out (by simp [spec_TurnPlain.l0])
  | succ k1 =>
   have H := HA.out
   clear HA
   simp only [spec_TurnPlain.l0] at H
   have HC8 := am_ H
   clear H
   go_upto_region 3 with (fail)
   go_cut [16] (fun v16 wc => ∃ (kq : Nat) (x16_7 : Bool), v16 = .bool x16_7 ∧ Aside0 (spec_TurnPlain.j1 kq x4_1 x16_7 l0_0 x860000_1 = some r) ∧ Aside0 (kq ≤ k1) ∧ Aside0 (Kd.S (Kd.slice 85 k85) 82 wc w.heap.size (fun _ => True) u860000 x860000_1) ∧ Aside0 (wc.heap[gb857]? = some (.cells #[(.slice A0_0 l0_0.length c0_0)] 35 (0, 0))) ∧ Aside0 (wc.heap[gb858]? = some (.cells #[(.slice none 0 0)] 35 (0, 0))) ∧ Aside0 (wc.heap[gb859]? = some (.cells #[u860000] 35 (0, 0))) ∧ Aside0 (Below w.heap.size w wc))
   case first =>
    have H := HC8.out
    clear HC8
    by_cases c9 : x4_1 < (l0_0.length : Int)
    ·rw [if_pos c9] at H
     have c9b0 : decide (x4_1 < (l0_0.length : Int)) = true := decide_eq_true c9
     clear c9
     (first | rw [c9b0] | (simp only [i64_w, i32_w]; rw [c9b0]) | skip)
     replace H := Option.bind_eq_some_iff.mp H
     obtain ⟨t860, A100, H⟩ := H
     replace H : (spec_TurnPlain.j1 k1 x4_1 t860 l0_0 x860000_1) = some r := H
     have A10 := am_ A100
     clear A100
     have H' := am_ H
     clear H
     have hnb11 := NB857_858.out
     have hnc11 := NB858_857.out
     have hnb12 := NB857_859.out
     have hnc12 := NB859_857.out
     have hcz13_0 : wr.cell? ⟨gb857, 0, none⟩ = some (.slice A0_0 l0_0.length c0_0) := (blk_cell BK857.out 0).trans rfl
     have hfz13_0 := blk_frozen BK857.out 0
     go_wp2_with (first | (go_at_call 43; (with_reducible refine (spec_ProgOk.calls k1 _ _ l0_0 t860 _ ?side1 ?side2 A10.out).mono ?_); (case side1 => repeat (first | exact (Kd.C_below HR0_0.out HB.out) | (with_reducible refine Kd.C_alloc ?_ _) | (with_reducible refine Kd.C_drewN ?_ _) | (with_reducible refine Kd.C_drew ?_))); (case side2 => exact HC0_0.out); rintro e w14 ⟨rfl, hb⟩; have n0_ := am_ (Kd.S_below (su HO_860000.out) hb); have n1_ := am_ (blk_below (bu BK857.out) hb); have n2_ := am_ (blk_below (bu BK858.out) hb); have n3_ := am_ (blk_below (bu BK859.out) hb); have n4_ := am_ (below_step z42_6 hb); clear HO_860000 BK857 BK858 BK859 HB; have HO_860000 := n0_; have BK857 := n1_; have BK858 := n2_; have BK859 := n3_; have HB := n4_; clear n0_ n1_ n2_ n3_ n4_; (try clear hb); (try clear hb2); (try clear hk); (try clear hi)))
     go_meet
     case rel => exact ⟨_, (t860), z42_1, H', ⟨by have := HK1.out; first | omega | exact Nat.le_refl _⟩, ⟨su HO_860000.out⟩, ⟨bu BK857.out⟩, ⟨bu BK858.out⟩, ⟨bu BK859.out⟩, ⟨z42_6⟩⟩
    ·rw [if_neg c9] at H
     have c9b0 : decide (x4_1 < (l0_0.length : Int)) = false := decide_eq_false c9
     clear c9
     (first | rw [c9b0] | (simp only [i64_w, i32_w]; rw [c9b0]) | skip)
     have H' := am_ H
     clear H
     have hnb15 := NB857_858.out
     have hnc15 := NB858_857.out
     have hnb16 := NB857_859.out
     have hnc16 := NB859_857.out
     have hcz17_0 : wr.cell? ⟨gb857, 0, none⟩ = some (.slice A0_0 l0_0.length c0_0) := (blk_cell BK857.out 0).trans rfl
     have hfz17_0 := blk_frozen BK857.out 0
     go_wp2
     go_meet
     case rel => exact ⟨_, (false), z42_1, H', ⟨by have := HK1.out; first | omega | exact Nat.le_refl _⟩, ⟨su HO_860000.out⟩, ⟨bu BK857.out⟩, ⟨bu BK858.out⟩, ⟨bu BK859.out⟩, ⟨z42_6⟩⟩
   case rest =>
    clear HC8
    obtain ⟨kq, x16_7, rfl, HA, HJ7, HO_860000, BK857, BK858, BK859, HB⟩ := hcut
    cases kq with
    | zero => exact absurd HA.out (by simp [spec_TurnPlain.j1])
    | succ kj7 =>
     have H := HA.out
     clear HA
     simp only [spec_TurnPlain.j1] at H
     by_cases c18 : x16_7 = true
     ·subst c18
      have H1 : ((some (([] : List (S85)) : List (S85))).bind fun y861 => (if 0 ≤ x4_1 then (if x4_1 < (l0_0.length : Int) then (if y861.length + (rd_L7 l0_0 x4_1).length < 5864062014805 then (spec_TurnPlain.l1 kj7 x4_1 (y861 ++ (rd_L7 l0_0 x4_1)) 0 l0_0 x860000_1) else (none)) else (none)) else (none))) = some r := by rw [if_pos rfl] at H; exact H
      clear H
      have H := H1
      clear H1
      obtain ⟨y861, hy861⟩ : ∃ y_ : List (S85), y_ = (([] : List (S85))) := ⟨_, rfl⟩
      replace H : (if 0 ≤ x4_1 then (if x4_1 < (l0_0.length : Int) then (if y861.length + (rd_L7 l0_0 x4_1).length < 5864062014805 then (spec_TurnPlain.l1 kj7 x4_1 (y861 ++ (rd_L7 l0_0 x4_1)) 0 l0_0 x860000_1) else (none)) else (none)) else (none)) = some r := by first | (rw [hy861]; with_reducible exact H) | (have H2_ := (Option.bind_some _ _).symm.trans H; rw [hy861]; with_reducible exact H2_) | (have H2_ := (Option.bind_some _ _).symm.trans H; with_reducible exact H2_) | with_reducible exact H | (rw [hy861]; exact H) | exact H
      have Ny861 := am_ hy861
      clear hy861
      by_cases c19 : 0 ≤ x4_1
      ·rw [if_pos c19] at H
       have c19b0 : decide (0 ≤ x4_1) = true := decide_eq_true c19
       clear c19
       by_cases c20 : x4_1 < (l0_0.length : Int)
       ·rw [if_pos c20] at H
        have c20b0 : decide (x4_1 < (l0_0.length : Int)) = true := decide_eq_true c20
        clear c20
        by_cases c21 : y861.length + (rd_L7 l0_0 x4_1).length < 5864062014805
        ·rw [if_pos c21] at H
         have LMc21 := am_ c21
         clear c21
         obtain ⟨y865, hy865⟩ : ∃ y_ : List (S85), y_ = (y861 ++ (rd_L7 l0_0 x4_1)) := ⟨_, rfl⟩
         replace H : (spec_TurnPlain.l1 kj7 x4_1 y865 0 l0_0 x860000_1) = some r := by first | (rw [hy865]; with_reducible exact H) | (have H2_ := (Option.bind_some _ _).symm.trans H; rw [hy865]; with_reducible exact H2_) | (have H2_ := (Option.bind_some _ _).symm.trans H; with_reducible exact H2_) | with_reducible exact H | (rw [hy865]; exact H) | exact H
         have Ny865 := am_ hy865
         clear hy865
         have H' := am_ H
         clear H
         go_wp2_with (first | ((with_reducible refine gate_dst (N := 19) rfl ?_); refine Kd.R_lit k85 _ 85 ?hg (N := 19) ?hd (xs := ([] : List (S85))) (inner := []) (ok := fun _ => True) (okp := fun _ => True) ?hr ?hp (fun _ hk => hk) trivial (Below.refl _ _) (Nat.le_refl _) (by simp) ?_; (case hd => rfl); (case hg => rfl); (case hr => first | (go_simp; done) | (go_simp; rfl)); (case hp => exact (Reps.none _ _)); intro v862 w22 ho23 hb hg_ hnew_; clear hg_ hnew_; (first | rw [← Ny861.out] at ho23 | (simp only [Int.reduceToNat] at ho23; rw [← Ny861.out] at ho23)); have n0_ := am_ (Kd.S_elder' (su HO_860000.out) (Kd.R_base ho23) hb); have n1_ := am_ (Kd.R_lower ho23 (below_size z42_6)); have n2_ := am_ (blk_below (bu BK857.out) hb); have n3_ := am_ (blk_below (bu BK858.out) hb); have n4_ := am_ (blk_below (bu BK859.out) hb); have n5_ := am_ (below_step z42_6 hb); clear HO_860000 BK857 BK858 BK859 HB; have HO_860000 := n0_; have HO863 := n1_; have BK857 := n2_; have BK858 := n3_; have BK859 := n4_; have HB := n5_; clear n0_ n1_ n2_ n3_ n4_ n5_; clear hb ho23; have hnb24 := NB857_858.out; have hnc24 := NB858_857.out; have hnb25 := NB857_859.out; have hnc25 := NB859_857.out; have hcz26_0 : w22.cell? ⟨gb857, 0, none⟩ = some (.slice A0_0 l0_0.length c0_0) := (blk_cell BK857.out 0).trans rfl; have hfz26_0 := blk_frozen BK857.out 0; have p864 : 0 ≤ (x4_1 : Int) := of_decide_eq_true z42_2; have q864 : x4_1 < (l0_0.length : Int) := of_decide_eq_true z42_2; obtain ⟨ad864, A864_0, c864_0, e864, hx864_0, hl864_0, hi864_0⟩ := at_L7 HR0_0.out x4_1 p864 q864; cases e864; replace hx864_0 := (HB.out.cell (World.block_lt_of_cell? w _ hx864_0)).trans hx864_0; have HR864_0 := am_ hi864_0; have HC864_0 := am_ hl864_0; clear hi864_0 hl864_0; replace p864 := eq_true p864; replace q864 := eq_true q864) | ((with_reducible refine gate_builtin (b := .append) (xs := #[.tmp 19, .tmp 24]) rfl ?_); at_builtin; refine Kd.R_append_rows k85 (w0 := w) w.heap.size rfl (.tmp 19) (.tmp 24) 82 85 (.agg #[(.int .i64 0), (.int .i64 0), (.int .i64 0)]) 24 rfl Try.underlying82 info85 rfl (by decide) (by omega) v862 y861 (rd_L7 l0_0 x4_1) _ _ _ (fun _ => True) (fun _ => False) rfl rfl ?aO ?aR (fun _ _ h => h) (fun _ h => h.elim) ?aF ?aB ?aS ?aL ?_; (case aR => repeat (first | exact (Kd.C_below HR864_0.out HB.out) | (with_reducible refine Kd.C_alloc ?_ _) | (with_reducible refine Kd.C_drewN ?_ _) | (with_reducible refine Kd.C_drew ?_))); (case aB => exact z42_6); (case aF => exact (fun _ _ => trivial)); (case aO => exact (ru HO863.out)); (case aS => exact (below_size z42_6)); (case aL => have := LMc21.out; omega); intro v866 w27 ho hb hg hat; rw [← Ny865.out] at ho; have n0_ := am_ (Kd.S_after (ok := (fun _ => True)) (su HO_860000.out) hg hat); have n1_ := am_ (blk_grown (bu BK857.out) hg (Kd.R_ne HO863.out BK857.out (by decide))); have n2_ := am_ (blk_grown (bu BK858.out) hg (Kd.R_ne HO863.out BK858.out (by decide))); have n3_ := am_ (blk_grown (bu BK859.out) hg (Kd.R_ne HO863.out BK859.out (by decide))); have n4_ := am_ (hb); have n5_ := am_ (ho); clear HO_860000 BK857 BK858 BK859 HB HO863; have HO_860000 := n0_; have BK857 := n1_; have BK858 := n2_; have BK859 := n3_; have HB := n4_; have HO867 := n5_; clear n0_ n1_ n2_ n3_ n4_ n5_; clear ho hb hg hat))
         go_loopg [6] kj7 (fun kq v6 w' => ∃ (x5_3 : List (S85)) (x6_3 : Int), v6 = .int .i64 x6_3 ∧ Aside0 (spec_TurnPlain.l1 kq x4_1 x5_3 x6_3 l0_0 x860000_1 = some r) ∧ Aside0 (kq ≤ kj7) ∧ Aside0 (Kd.R k85 85 w' w.heap.size (fun _ => True) v866 x5_3) ∧ Aside0 (Kd.S (Kd.slice 85 k85) 82 w' w.heap.size (fun k_ => some k_ ≠ (v866 : Value).ownBlock) u860000 x860000_1) ∧ Aside0 (w'.heap[gb857]? = some (.cells #[(.slice (some ad864) l0_0.length c0_0)] 35 (0, 0))) ∧ Aside0 (w'.heap[gb858]? = some (.cells #[(.slice none 0 0)] 35 (0, 0))) ∧ Aside0 (w'.heap[gb859]? = some (.cells #[u860000] 35 (0, 0))) ∧ Aside0 (Below w.heap.size w w'))
         case atStart => exact ⟨(y865), (0), z42_1, H', ⟨Nat.le_refl _⟩, ⟨ru HO867.out⟩, ⟨su (Kd.S_mono HO_860000.out (fun _ hk => hk.2))⟩, ⟨bu BK857.out⟩, ⟨bu BK858.out⟩, ⟨bu BK859.out⟩, ⟨z42_6⟩⟩
         case round =>
          clear H'
          obtain ⟨x5_3, x6_3, rfl, HA, HK3, HO_5, HO_860000, BK857, BK858, BK859, HB⟩ := hrel
          cases gk with
          | zero => exact absurd HA.out (by simp [spec_TurnPlain.l1])
          | succ k3 =>
           have H := HA.out
           clear HA
           simp only [spec_TurnPlain.l1] at H
           by_cases c28 : x6_3 < (x5_3.length : Int)
           ·rw [if_pos c28] at H
            have c28b0 : decide (x6_3 < (x5_3.length : Int)) = true := decide_eq_true c28
            clear c28
            by_cases c29 : 0 ≤ x6_3
            ·rw [if_pos c29] at H
             have c29b0 : decide (0 ≤ x6_3) = true := decide_eq_true c29
             clear c29
             by_cases c30 : ((rd_T85 x5_3 x6_3).f0) = 5
             ·rw [if_pos c30] at H
              have c30b0 : (((rd_T85 x5_3 x6_3).f0) == 5) = true := beq_iff_eq.mpr c30
              have c30b1 : (((rd_T85 x5_3 x6_3).f0) != 5) = false := bne_eq_false_iff_eq.mpr c30
              clear c30
              obtain ⟨y872, hy872⟩ : ∃ y_ : List (S85), y_ = (x5_3.set (x6_3 : Int).toNat (⟨2, (rd_T85 x5_3 x6_3).f1, (rd_T85 x5_3 x6_3).f2⟩ : S85)) := ⟨_, rfl⟩
              replace H : (spec_TurnPlain.l1 k3 x4_1 y872 (wrap64 (x6_3 + 1)) l0_0 x860000_1) = some r := by first | (rw [hy872]; with_reducible exact H) | (have H2_ := (Option.bind_some _ _).symm.trans H; rw [hy872]; with_reducible exact H2_) | (have H2_ := (Option.bind_some _ _).symm.trans H; with_reducible exact H2_) | with_reducible exact H | (rw [hy872]; exact H) | exact H
              have Ny872 := am_ hy872
              clear hy872
              have H' := am_ H
              clear H
              obtain ⟨Ao32, co32, eo32⟩ := Kd.R_slice HO_5.out
              subst eo32
              have p871 : 0 ≤ (x6_3 : Int) := of_decide_eq_true z42_2
              have q871 : x6_3 < (x5_3.length : Int) := of_decide_eq_true z42_2
              obtain ⟨ad871, e871, hx871_0, hx871_1, hx871_2⟩ := at_T85 (Kd.R_reads' HO_5.out).2.2 x6_3 p871 q871
              cases e871
              replace p871 := eq_true p871
              replace q871 := eq_true q871
              have p31 : 0 ≤ (x6_3 : Int) := of_decide_eq_true z42_2
              have q31 : (x6_3 : Int) < ((x5_3.length : Int) : Int) := of_decide_eq_true z42_2
              obtain ⟨go31, co31, eo31, gb31, gl31, cl31, HG31⟩ := Kd.R_form HO_5.out (by omega)
              (first | cases eo31 | (injection eo31 with ea_ en_ ec_; (first | subst ea_ | (injection ea_ with ea_; subst ea_)); subst ec_; clear en_))
              have GB31 := am_ gb31
              have GG31 := am_ HG31
              clear gb31 gl31 HG31
              (first | simp only [add_plain] at hx871_0 | skip)
              (first | simp only [add_plain] at hx871_1 | skip)
              (first | simp only [add_plain] at hx871_2 | skip)
              obtain ⟨ce31, hcl31, hM31, hcc31, hfr31⟩ := Kd.R_elem HO_5.out z85 (x6_3 : Int) p31 q31
              obtain rfl := k85_openM hM31
              have hx31_0 : wr.cell? ⟨go31, (x6_3 : Int).toNat * 3, none⟩ = some (.int .i64 ((rd_T85 x5_3 x6_3).f0)) := hcc31 0 _ rfl
              have hx31_1 : wr.cell? ⟨go31, (x6_3 : Int).toNat * 3 + 1, none⟩ = some (.int .i64 ((rd_T85 x5_3 x6_3).f1)) := hcc31 1 _ rfl
              have hx31_2 : wr.cell? ⟨go31, (x6_3 : Int).toNat * 3 + 2, none⟩ = some (.int .i64 ((rd_T85 x5_3 x6_3).f2)) := hcc31 2 _ rfl
              have hf31_0 : wr.frozen? ⟨go31, (x6_3 : Int).toNat * 3, none⟩ = false := hfr31 0
              have hf31_1 : wr.frozen? ⟨go31, (x6_3 : Int).toNat * 3 + 1, none⟩ = false := hfr31 1
              have hf31_2 : wr.frozen? ⟨go31, (x6_3 : Int).toNat * 3 + 2, none⟩ = false := hfr31 2
              clear hcl31 hcc31 hfr31 hM31
              replace p31 := eq_true p31
              replace q31 := eq_true q31
              have HX33 := am_ (show Kd.R k85 85 wr w.heap.size (fun _ => True) (.slice (some ⟨go31, 0, none⟩) x5_3.length co32) x5_3 from (ru HO_5.out))
              obtain ⟨ce33, hcl33, hM33, hcc33, hfr33⟩ := Kd.R_elem HX33.out z85 (x6_3 : Int) (of_decide_eq_true z42_2) (by have h_ : (x6_3 : Int) < ((x5_3.length : Int) : Int) := of_decide_eq_true z42_2; first | exact h_ | (have e_ := (Kd.R_reads' HO_5.out).1; omega) | simpa using h_)
              obtain rfl := k85_openM hM33
              have HP33 := Kd.R_seg HX33.out (x6_3 : Int) (of_decide_eq_true z42_2) (by have h_ : (x6_3 : Int) < ((x5_3.length : Int) : Int) := of_decide_eq_true z42_2; first | exact h_ | (have e_ := (Kd.R_reads' HO_5.out).1; omega) | simpa using h_) (seg := [.int .i64 2]) (j := 0) hcl33 hcc33 (show 1 ≤ 3 from by decide) (x' := (⟨2, (rd_T85 x5_3 x6_3).f1, (rd_T85 x5_3 x6_3).f2⟩ : S85)) (k85_mkM _ _ _ (⟨2, (rd_T85 x5_3 x6_3).f1, (rd_T85 x5_3 x6_3).f2⟩ : S85) ) (fun _ hk => hk)
              have hx33_0 := hcc33 0 _ rfl
              (try simp only [show (k85).sz = 3 from rfl, Nat.mul_one, Nat.add_zero] at hx33_0)
              have hf33_0 := hfr33 0
              (try simp only [show (k85).sz = 3 from rfl, Nat.mul_one, Nat.add_zero] at hf33_0)
              clear hcl33 hcc33 hfr33 hM33
              go_wp2_with (first | ((with_reducible refine gate_store (t := 3) (p := 42) rfl ?_); refine store_event (t := 3) (p := 42) (v := ?vo_w34) (w1 := (wr.setCell ⟨go31, (x6_3 : Int).toNat * 3, none⟩ (.int .i64 2))) ?hg ?ho ?hn ?hr ?_; (case ho => rfl); (case hg => rfl); (case hn => rfl); (case hr => first | (go_simp; done) | (go_simp; rfl)); intro w34 hw; have hg : wr.grownBy w34 (some go31) := (by rw [hw]; exact HP33.2); have hp_ : Kd.R k85 85 w34 w.heap.size (fun _ => True) (.slice (some ⟨go31, 0, none⟩) x5_3.length co32) y872 := (by rw [hw, Ny872.out]; exact HP33.1); clear HP33; have n0_ := am_ (hp_); have n1_ := am_ (Kd.S_after (v := (.slice (some ⟨go31, 0, none⟩) x5_3.length co32)) (v1 := (.slice (some ⟨go31, 0, none⟩) x5_3.length co32)) (ok := (fun _ => True)) (su (Kd.S_mono HO_860000.out (fun _ hk => ⟨trivial, hk⟩))) hg (.inl rfl)); have n2_ := am_ (blk_grown (bu BK857.out) hg (Kd.R_ne HO_5.out BK857.out (by decide))); have n3_ := am_ (blk_grown (bu BK858.out) hg (Kd.R_ne HO_5.out BK858.out (by decide))); have n4_ := am_ (blk_grown (bu BK859.out) hg (Kd.R_ne HO_5.out BK859.out (by decide))); have n5_ := am_ (by rw [hw]; exact below_set (HB.out) GB31.out : Below w.heap.size w w34); clear HO_5 HO_860000 BK857 BK858 BK859 HB; have HO_5 := n0_; have HO_860000 := n1_; have BK857 := n2_; have BK858 := n3_; have BK859 := n4_; have HB := n5_; clear n0_ n1_ n2_ n3_ n4_ n5_; clear hg hw hp_))
              go_roundg k3
              case measure => have := HK1.out; have := HJ7.out; have := HK3.out; omega
              case rel => exact ⟨(y872), (wrap64 (x6_3 + 1)), z42_1, H', ⟨by have := HK1.out; have := HJ7.out; have := HK3.out; omega⟩, ⟨ru HO_5.out⟩, ⟨su (Kd.S_mono HO_860000.out (fun _ hk => hk.2))⟩, ⟨bu BK857.out⟩, ⟨bu BK858.out⟩, ⟨bu BK859.out⟩, ⟨z42_6⟩⟩
             ·rw [if_neg c30] at H
              have c30b0 : (((rd_T85 x5_3 x6_3).f0) == 5) = false := beq_eq_false_iff_ne.mpr c30
              have c30b1 : (((rd_T85 x5_3 x6_3).f0) != 5) = true := bne_iff_ne.mpr c30
              by_cases c35 : ((rd_T85 x5_3 x6_3).f0) = 6
              ·rw [if_pos c35] at H
               have c35b0 : (((rd_T85 x5_3 x6_3).f0) == 6) = true := beq_iff_eq.mpr c35
               have c35b1 : (((rd_T85 x5_3 x6_3).f0) != 6) = false := bne_eq_false_iff_eq.mpr c35
               clear c35
               obtain ⟨y873, hy873⟩ : ∃ y_ : List (S85), y_ = (x5_3.set (x6_3 : Int).toNat (⟨1, (rd_T85 x5_3 x6_3).f1, (rd_T85 x5_3 x6_3).f2⟩ : S85)) := ⟨_, rfl⟩
               replace H : (spec_TurnPlain.l1 k3 x4_1 y873 (wrap64 (x6_3 + 1)) l0_0 x860000_1) = some r := by first | (rw [hy873]; with_reducible exact H) | (have H2_ := (Option.bind_some _ _).symm.trans H; rw [hy873]; with_reducible exact H2_) | (have H2_ := (Option.bind_some _ _).symm.trans H; with_reducible exact H2_) | with_reducible exact H | (rw [hy873]; exact H) | exact H
               have Ny873 := am_ hy873
               clear hy873
               have H' := am_ H
               clear H
               obtain ⟨Ao37, co37, eo37⟩ := Kd.R_slice HO_5.out
               subst eo37
               have p871 : 0 ≤ (x6_3 : Int) := of_decide_eq_true z42_2
               have q871 : x6_3 < (x5_3.length : Int) := of_decide_eq_true z42_2
               obtain ⟨ad871, e871, hx871_0, hx871_1, hx871_2⟩ := at_T85 (Kd.R_reads' HO_5.out).2.2 x6_3 p871 q871
               cases e871
               replace p871 := eq_true p871
               replace q871 := eq_true q871
               have p36 : 0 ≤ (x6_3 : Int) := of_decide_eq_true z42_2
               have q36 : (x6_3 : Int) < ((x5_3.length : Int) : Int) := of_decide_eq_true z42_2
               obtain ⟨go36, co36, eo36, gb36, gl36, cl36, HG36⟩ := Kd.R_form HO_5.out (by omega)
               (first | cases eo36 | (injection eo36 with ea_ en_ ec_; (first | subst ea_ | (injection ea_ with ea_; subst ea_)); subst ec_; clear en_))
               have GB36 := am_ gb36
               have GG36 := am_ HG36
               clear gb36 gl36 HG36
               (first | simp only [add_plain] at hx871_0 | skip)
               (first | simp only [add_plain] at hx871_1 | skip)
               (first | simp only [add_plain] at hx871_2 | skip)
               obtain ⟨ce36, hcl36, hM36, hcc36, hfr36⟩ := Kd.R_elem HO_5.out z85 (x6_3 : Int) p36 q36
               obtain rfl := k85_openM hM36
               have hx36_0 : wr.cell? ⟨go36, (x6_3 : Int).toNat * 3, none⟩ = some (.int .i64 ((rd_T85 x5_3 x6_3).f0)) := hcc36 0 _ rfl
               have hx36_1 : wr.cell? ⟨go36, (x6_3 : Int).toNat * 3 + 1, none⟩ = some (.int .i64 ((rd_T85 x5_3 x6_3).f1)) := hcc36 1 _ rfl
               have hx36_2 : wr.cell? ⟨go36, (x6_3 : Int).toNat * 3 + 2, none⟩ = some (.int .i64 ((rd_T85 x5_3 x6_3).f2)) := hcc36 2 _ rfl
               have hf36_0 : wr.frozen? ⟨go36, (x6_3 : Int).toNat * 3, none⟩ = false := hfr36 0
               have hf36_1 : wr.frozen? ⟨go36, (x6_3 : Int).toNat * 3 + 1, none⟩ = false := hfr36 1
               have hf36_2 : wr.frozen? ⟨go36, (x6_3 : Int).toNat * 3 + 2, none⟩ = false := hfr36 2
               clear hcl36 hcc36 hfr36 hM36
               replace p36 := eq_true p36
               replace q36 := eq_true q36
               have HX38 := am_ (show Kd.R k85 85 wr w.heap.size (fun _ => True) (.slice (some ⟨go36, 0, none⟩) x5_3.length co37) x5_3 from (ru HO_5.out))
               obtain ⟨ce38, hcl38, hM38, hcc38, hfr38⟩ := Kd.R_elem HX38.out z85 (x6_3 : Int) (of_decide_eq_true z42_2) (by have h_ : (x6_3 : Int) < ((x5_3.length : Int) : Int) := of_decide_eq_true z42_2; first | exact h_ | (have e_ := (Kd.R_reads' HO_5.out).1; omega) | simpa using h_)
               obtain rfl := k85_openM hM38
               have HP38 := Kd.R_seg HX38.out (x6_3 : Int) (of_decide_eq_true z42_2) (by have h_ : (x6_3 : Int) < ((x5_3.length : Int) : Int) := of_decide_eq_true z42_2; first | exact h_ | (have e_ := (Kd.R_reads' HO_5.out).1; omega) | simpa using h_) (seg := [.int .i64 1]) (j := 0) hcl38 hcc38 (show 1 ≤ 3 from by decide) (x' := (⟨1, (rd_T85 x5_3 x6_3).f1, (rd_T85 x5_3 x6_3).f2⟩ : S85)) (k85_mkM _ _ _ (⟨1, (rd_T85 x5_3 x6_3).f1, (rd_T85 x5_3 x6_3).f2⟩ : S85) ) (fun _ hk => hk)
               have hx38_0 := hcc38 0 _ rfl
               (try simp only [show (k85).sz = 3 from rfl, Nat.mul_one, Nat.add_zero] at hx38_0)
               have hf38_0 := hfr38 0
               (try simp only [show (k85).sz = 3 from rfl, Nat.mul_one, Nat.add_zero] at hf38_0)
               clear hcl38 hcc38 hfr38 hM38
               go_wp2_with (first | ((with_reducible refine gate_store (t := 3) (p := 48) rfl ?_); refine store_event (t := 3) (p := 48) (v := ?vo_w39) (w1 := (wr.setCell ⟨go36, (x6_3 : Int).toNat * 3, none⟩ (.int .i64 1))) ?hg ?ho ?hn ?hr ?_; (case ho => rfl); (case hg => rfl); (case hn => rfl); (case hr => first | (go_simp; done) | (go_simp; rfl)); intro w39 hw; have hg : wr.grownBy w39 (some go36) := (by rw [hw]; exact HP38.2); have hp_ : Kd.R k85 85 w39 w.heap.size (fun _ => True) (.slice (some ⟨go36, 0, none⟩) x5_3.length co37) y873 := (by rw [hw, Ny873.out]; exact HP38.1); clear HP38; have n0_ := am_ (hp_); have n1_ := am_ (Kd.S_after (v := (.slice (some ⟨go36, 0, none⟩) x5_3.length co37)) (v1 := (.slice (some ⟨go36, 0, none⟩) x5_3.length co37)) (ok := (fun _ => True)) (su (Kd.S_mono HO_860000.out (fun _ hk => ⟨trivial, hk⟩))) hg (.inl rfl)); have n2_ := am_ (blk_grown (bu BK857.out) hg (Kd.R_ne HO_5.out BK857.out (by decide))); have n3_ := am_ (blk_grown (bu BK858.out) hg (Kd.R_ne HO_5.out BK858.out (by decide))); have n4_ := am_ (blk_grown (bu BK859.out) hg (Kd.R_ne HO_5.out BK859.out (by decide))); have n5_ := am_ (by rw [hw]; exact below_set (HB.out) GB36.out : Below w.heap.size w w39); clear HO_5 HO_860000 BK857 BK858 BK859 HB; have HO_5 := n0_; have HO_860000 := n1_; have BK857 := n2_; have BK858 := n3_; have BK859 := n4_; have HB := n5_; clear n0_ n1_ n2_ n3_ n4_ n5_; clear hg hw hp_))
               go_roundg k3
               case measure => have := HK1.out; have := HJ7.out; have := HK3.out; omega
               case rel => exact ⟨(y873), (wrap64 (x6_3 + 1)), z42_1, H', ⟨by have := HK1.out; have := HJ7.out; have := HK3.out; omega⟩, ⟨ru HO_5.out⟩, ⟨su (Kd.S_mono HO_860000.out (fun _ hk => hk.2))⟩, ⟨bu BK857.out⟩, ⟨bu BK858.out⟩, ⟨bu BK859.out⟩, ⟨z42_6⟩⟩
              ·rw [if_neg c35] at H
               have c35b0 : (((rd_T85 x5_3 x6_3).f0) == 6) = false := beq_eq_false_iff_ne.mpr c35
               have c35b1 : (((rd_T85 x5_3 x6_3).f0) != 6) = true := bne_iff_ne.mpr c35
               have H' := am_ H
               clear H
               obtain ⟨Ao40, co40, eo40⟩ := Kd.R_slice HO_5.out
               subst eo40
               have p871 : 0 ≤ (x6_3 : Int) := of_decide_eq_true z42_2
               have q871 : x6_3 < (x5_3.length : Int) := of_decide_eq_true z42_2
               obtain ⟨ad871, e871, hx871_0, hx871_1, hx871_2⟩ := at_T85 (Kd.R_reads' HO_5.out).2.2 x6_3 p871 q871
               cases e871
               replace p871 := eq_true p871
               replace q871 := eq_true q871
               go_wp2
               go_roundg k3
               case measure => have := HK1.out; have := HJ7.out; have := HK3.out; omega
               case rel => exact ⟨(x5_3), (wrap64 (x6_3 + 1)), z42_1, H', ⟨by have := HK1.out; have := HJ7.out; have := HK3.out; omega⟩, ⟨ru HO_5.out⟩, ⟨su HO_860000.out⟩, ⟨bu BK857.out⟩, ⟨bu BK858.out⟩, ⟨bu BK859.out⟩, ⟨z42_6⟩⟩
            ·rw [if_neg c29] at H
             exact absurd H (by simp)
           ·rw [if_neg c28] at H
            have c28b0 : decide (x6_3 < (x5_3.length : Int)) = false := decide_eq_false c28
            clear c28
            by_cases c41 : x860000_1.length < 5864062014805
            ·rw [if_pos c41] at H
             have LMc41 := am_ c41
             clear c41
             obtain ⟨y868, hy868⟩ : ∃ y_ : List (List (S85)), y_ = (x860000_1 ++ [x5_3]) := ⟨_, rfl⟩
             replace H : (spec_TurnPlain.l0 k3 (wrap64 (x4_1 + 1)) l0_0 y868) = some r := by first | (rw [hy868]; with_reducible exact H) | (have H2_ := (Option.bind_some _ _).symm.trans H; rw [hy868]; with_reducible exact H2_) | (have H2_ := (Option.bind_some _ _).symm.trans H; with_reducible exact H2_) | with_reducible exact H | (rw [hy868]; exact H) | exact H
             have Ny868 := am_ hy868
             clear hy868
             have H' := am_ H
             clear H
             obtain ⟨Ao42, co42, eo42⟩ := Kd.R_slice HO_5.out
             subst eo42
             have hnb43 := NB859_857.out
             have hnc43 := NB857_859.out
             have hnb44 := NB859_858.out
             have hnc44 := NB858_859.out
             have hcz45_0 : wr.cell? ⟨gb859, 0, none⟩ = some (u860000) := (blk_cell BK859.out 0).trans rfl
             have hfz45_0 := blk_frozen BK859.out 0
             go_wp2_with (first | ((with_reducible refine gate_builtin (b := .append) (xs := #[.tmp 50, .tmp 52]) rfl ?_); at_builtin; refine Kd.S_append (Kd.slice 85 k85) (w0 := w) w.heap.size rfl (.tmp 50) (.tmp 52) 33 82 (.slice none 0 0) 24 rfl Try.underlying33 info82 rfl (by decide) (by omega) u860000 x860000_1 x5_3 [.slice Ao42 x5_3.length co42] (fun _ => True) (fun k_ => some k_ = (.slice Ao42 x5_3.length co42 : Value).ownBlock) rfl rfl ?aP (fun k_ hk_ => ((Kd.R_mono (ok' := fun k_ => ((fun _ => True)) k_ ∧ some k_ ≠ (u860000 : Value).ownBlock) (Kd.R_apart' (HO_5.out) (Kd.S_typed HO_860000.out) (by decide)) (fun k_ hk => ⟨trivial, hk.2⟩))).1 k_ hk_.symm) ?aF ?aO ?aB ?aS ?aL ?_; (case aP => exact Kd.M_row (Kd.R_mono (Kd.R_tight rfl (Kd.R_mono (ok' := fun k_ => ((fun _ => True)) k_ ∧ some k_ ≠ (u860000 : Value).ownBlock) (Kd.R_apart' (HO_5.out) (Kd.S_typed HO_860000.out) (by decide)) (fun k_ hk => ⟨trivial, hk.2⟩))) (fun _ h_ => h_))); (case aB => exact z42_6); (case aF => exact (fun _ _ => trivial)); (case aO => exact (su (Kd.S_mono HO_860000.out (fun k_ hk => ⟨trivial, fun e_ => hk e_⟩)))); (case aS => exact (below_size z42_6)); (case aL => have := LMc41.out; omega); intro v869 w46 ho hb hg hat; rw [← Ny868.out] at ho; have n0_ := am_ (blk_grown (bu BK857.out) hg (Kd.S_ne HO_860000.out BK857.out (by decide))); have n1_ := am_ (blk_grown (bu BK858.out) hg (Kd.S_ne HO_860000.out BK858.out (by decide))); have n2_ := am_ (blk_grown (bu BK859.out) hg (Kd.S_ne HO_860000.out BK859.out (by decide))); have n3_ := am_ (hb); have n4_ := am_ (ho); clear BK857 BK858 BK859 HB HO_860000 HO_5; have BK857 := n0_; have BK858 := n1_; have BK859 := n2_; have HB := n3_; have HO870 := n4_; clear n0_ n1_ n2_ n3_ n4_; clear ho hb hg hat; obtain ⟨Ao47, co47, eo47⟩ := Kd.S_slice HO870.out; subst eo47; have hcz48_0 : w46.cell? ⟨gb859, 0, none⟩ = some (u860000) := (blk_cell BK859.out 0).trans rfl; have hfz48_0 := blk_frozen BK859.out 0))
             go_roundg k3
             case measure => have := HK1.out; have := HJ7.out; have := HK3.out; omega
             case rel => exact ⟨(wrap64 (x4_1 + 1)), (y868), (.slice Ao47 y868.length co47), z42_1, H', ⟨by have := HK1.out; have := HJ7.out; have := HK3.out; omega⟩, ⟨su (Kd.S_mono (Kd.S_far (p := ⟨gb859, 0, none⟩) (Kd.S_types HO870.out BK859.out (by decide)) (fun _ hk => hk.2) (.slice Ao47 y868.length co47)) (fun _ hk => trivial))⟩, ⟨z42_7⟩, ⟨z42_8⟩, ⟨by (with_reducible repeat (first | refine blk_drewN ?_ _ | refine blk_drew ?_ | refine blk_alloc ?_ _)); refine blk_put (cs := #[u860000]) ?_ 0 _ rfl; (with_reducible repeat (first | refine blk_drewN ?_ _ | refine blk_drew ?_ | refine blk_alloc ?_ _)); exact BK859.out⟩, ⟨z42_6⟩⟩
            ·rw [if_neg c41] at H
             exact absurd H (by simp)
        ·rw [if_neg c21] at H
         exact absurd H (by simp)
       ·rw [if_neg c20] at H
        exact absurd H (by simp)
      ·rw [if_neg c19] at H
       exact absurd H (by simp)
     ·replace c18 := Bool.eq_false_iff.mpr c18
      subst c18
      have H1 : (some x860000_1) = some r := by rw [if_neg (show ¬ (false = true) by decide)] at H; exact H
      clear H
      have H := H1
      clear H1
      obtain rfl := Option.some.inj H
      have hnb49 := NB859_857.out
      have hnc49 := NB857_859.out
      have hnb50 := NB859_858.out
      have hnc50 := NB858_859.out
      have hcz51_0 : wc.cell? ⟨gb859, 0, none⟩ = some (u860000) := (blk_cell BK859.out 0).trans rfl
      have hfz51_0 := blk_frozen BK859.out 0
      obtain ⟨Ao52, co52, eo52⟩ := Kd.S_slice HO_860000.out
      subst eo52
      have hnb53 := NB858_857.out
      have hnc53 := NB857_858.out
      have hcz54_0 : wc.cell? ⟨gb858, 0, none⟩ = some (.slice none 0 0) := (blk_cell BK858.out 0).trans rfl
      have hfz54_0 := blk_frozen BK858.out 0
      go_wp2
      refine bodyPost_ret (results_cell_row rfl _ _ gb858 35 #[.slice Ao52 x860000_1.length co52] (0, 0) _ rfl (by (with_reducible repeat (first | refine blk_drewN ?_ _ | refine blk_drew ?_ | refine blk_alloc ?_ _)); refine blk_put (cs := #[.slice none 0 0]) ?_ 0 _ rfl; (with_reducible repeat (first | refine blk_drewN ?_ _ | refine blk_drew ?_ | refine blk_alloc ?_ _)); exact BK858.out) Try.underlying35 rfl (by kernel_rfl)) rfl ?_
      exact ⟨_, by first | rfl | (simp [errW_none, errW_some] <;> rfl) | (simp [*, errW_none, errW_some] <;> rfl), su (Kd.S_mono (Kd.S_far (p := ⟨gb858, 0, none⟩) (Kd.S_types HO_860000.out BK858.out (by decide)) (fun _ hk => hk.2) (.slice Ao52 x860000_1.length co52)) (fun _ hk => trivial)), z42_6⟩

end Go.Proofs.Ytefkbmhkhpekjaa.PB

namespace Go.Proofs.Ytefkbmhkhpekjaa.PB
open Go.RowKit Go.Proofs.YtefkbmhkhpekjaaW.PrintWords Go.Proofs.YtefkbmhkhpekjaaW.PrintLast Go.Proofs.YtefkbmhkhpekjaaW.PrintMore
attribute [local go_sem] max2_int min2_int max_two min_two max_three min_three max_four min_four   -- for this text's walks alone
open Go.Proofs.YtefkbmhkhpekjaaMine
set_option linter.unusedVariables false
set_option linter.unusedSimpArgs false

theorem z9_1 {p : Prop} (h : p := by first | exact Kd.N_base ho0 | exact Kd.S_base ho0) : p := h
theorem z9_2 {p : Prop} (h : p := by first | rfl | (simp [errW_none, errW_some] <;> rfl) | (simp [*, errW_none, errW_some] <;> rfl)) : p := h
theorem z9_3 {p : Prop} (h : p := by repeat (first | (with_reducible first | exact HB.out | apply below_alloc | apply pw_below_drewN | apply below_drew1) | exact HB.out)) : p := h
theorem z9_4 {p : Prop} (h : p := by repeat (first | (with_reducible first | exact HB.out | apply below_alloc | apply pw_below_drewN | apply below_drew1 | refine below_set ?_ GE877.out) | exact HB.out)) : p := h
theorem z9_5 {p : Prop} (h : p := by repeat (first | (with_reducible first | exact HB.out | apply below_alloc | apply pw_below_drewN | apply below_drew1 | refine below_set ?_ GE877.out | refine below_set ?_ GE881.out) | exact HB.out)) : p := h
theorem z9_6 {p : Prop} (h : p := by (with_reducible repeat (first | refine blk_drewN ?_ _ | refine blk_drew ?_ | refine blk_alloc ?_ _)); refine blk_far ?_ NB877_881.out _; (with_reducible repeat (first | refine blk_drewN ?_ _ | refine blk_drew ?_ | refine blk_alloc ?_ _)); exact BK877.out) : p := h
theorem z9_7 {p : Prop} (h : p := by (with_reducible repeat (first | refine blk_drewN ?_ _ | refine blk_drew ?_ | refine blk_alloc ?_ _)); refine blk_put (cs := #[.slice none 0 0]) ?_ 0 _ rfl; (with_reducible repeat (first | refine blk_drewN ?_ _ | refine blk_drew ?_ | refine blk_alloc ?_ _)); exact BK877.out) : p := h
theorem z9_8 {p : Prop} (h : p := by (with_reducible repeat (first | refine blk_drewN ?_ _ | refine blk_drew ?_ | refine blk_alloc ?_ _)); refine blk_put (cs := #[.slice none 0 0]) ?_ 0 _ rfl; (with_reducible repeat (first | refine blk_drewN ?_ _ | refine blk_drew ?_ | refine blk_alloc ?_ _)); exact BK881.out) : p := h
/-! ### laws_FnTurnPlain: function 9 -/
def laws_FnTurnPlain.j0 : Nat → Bool → List (List (S85)) → List (List (S85)) → Option (Bool)
  | 0, _, _, _ => none
  | k + 1, x21, x878000, x882000 => if x21 = true then ((spec_TurnPlain.f k x878000).bind fun t887 => ((laws_lpProg.f k x882000 t887).bind fun t890 => (some t890))) else ((impl_TurnPlain.f k x882000).bind fun t891 => ((laws_lpProg.f k t891 x882000).bind fun t894 => (if t894 = true then ((impl_ProgOk.f k x882000).bind fun t895 => (if t895 = true then ((impl_ProgReads.f k x882000).bind fun t896 => ((impl_ProgReads.f k x878000).bind fun t897 => (some (t896 == t897)))) else (some false))) else (some false))))
def laws_FnTurnPlain.f (k : Nat) (l0 : List Int) : Option (Bool) := if (l0.length : Int) > 1048576 then (some true) else ((spec_DrawTurnPlain.f k l0).bind fun t874 => ((impl_TurnPlain.f k t874).bind fun t878 => ((spec_TurnPlain.f k t874).bind fun t882 => ((laws_lpProg.f k t878 t882).bind fun t885 => (if t885 = true then ((spec_ProgOk.f k t874).bind fun t886 => (laws_FnTurnPlain.j0 k (!t886) t874 t878)) else (laws_FnTurnPlain.j0 k true t874 t878))))))
theorem laws_FnTurnPlain.mono_l : ∀ k, (∀ y0 y1 y2, LeO (laws_FnTurnPlain.j0 k y0 y1 y2) (laws_FnTurnPlain.j0 (k + 1) y0 y1 y2))
  | 0 => fun _ _ _ r h => by simp [laws_FnTurnPlain.j0] at h
  | k + 1 => by
    have ih0 := laws_FnTurnPlain.mono_l k
    · intro y0 y1 y2
      unfold laws_FnTurnPlain.j0
      repeat' first
      | (with_reducible exact ih0 _ _ _)
      | (with_reducible exact impl_ProgOk.mono _ _)
      | (with_reducible exact impl_ProgReads.mono _ _)
      | (with_reducible exact impl_TurnPlain.mono _ _)
      | (with_reducible exact laws_lpProg.mono _ _ _)
      | (with_reducible exact spec_DrawTurnPlain.mono _ _)
      | (with_reducible exact spec_ProgOk.mono _ _)
      | (with_reducible exact spec_TurnPlain.mono _ _)
      | (with_reducible exact LeO.refl _)
      | (with_reducible exact LeO.none _)
      | (with_reducible refine LeO.ite ?_ ?_)
      | (with_reducible refine LeO.bind ?_ (fun _ => ?_))
      | exact ih0 _ _ _
      | exact impl_ProgOk.mono _ _
      | exact impl_ProgReads.mono _ _
      | exact impl_TurnPlain.mono _ _
      | exact laws_lpProg.mono _ _ _
      | exact spec_DrawTurnPlain.mono _ _
      | exact spec_ProgOk.mono _ _
      | exact spec_TurnPlain.mono _ _
      | exact LeO.none _
      | refine LeO.ite ?_ ?_
      | refine LeO.bind ?_ (fun _ => ?_)
theorem laws_FnTurnPlain.mono : ∀ a0 k, LeO (laws_FnTurnPlain.f k a0) (laws_FnTurnPlain.f (k + 1) a0) := by
  intro a0 k
  have ih0 := laws_FnTurnPlain.mono_l k
  unfold laws_FnTurnPlain.f
  repeat' first
      | (with_reducible exact ih0 _ _ _)
      | (with_reducible exact impl_ProgOk.mono _ _)
      | (with_reducible exact impl_ProgReads.mono _ _)
      | (with_reducible exact impl_TurnPlain.mono _ _)
      | (with_reducible exact laws_lpProg.mono _ _ _)
      | (with_reducible exact spec_DrawTurnPlain.mono _ _)
      | (with_reducible exact spec_ProgOk.mono _ _)
      | (with_reducible exact spec_TurnPlain.mono _ _)
      | (with_reducible exact LeO.refl _)
      | (with_reducible exact LeO.none _)
      | (with_reducible refine LeO.ite ?_ ?_)
      | (with_reducible refine LeO.bind ?_ (fun _ => ?_))
      | exact ih0 _ _ _
      | exact impl_ProgOk.mono _ _
      | exact impl_ProgReads.mono _ _
      | exact impl_TurnPlain.mono _ _
      | exact laws_lpProg.mono _ _ _
      | exact spec_DrawTurnPlain.mono _ _
      | exact spec_ProgOk.mono _ _
      | exact spec_TurnPlain.mono _ _
      | exact LeO.none _
      | refine LeO.ite ?_ ?_
      | refine LeO.bind ?_ (fun _ => ?_)
def laws_FnTurnPlain.T5 : Bool × List (List Nat × List Nat) := (true, [([], []), ([], []), ([1], [1]), ([0, 2, 2], [0, 2]), ([3], [3]), ([4, 3], [4]), ([5], [5]), ([6, 5, 5], [5, 6]), ([7, 5], [5, 7]), ([5, 8], [5, 8])])
def laws_FnTurnPlain.B5 : List Nat := [0, 0, 2, 7, 15, 31, 63, 127, 255, 511]
theorem laws_FnTurnPlain.tab5 : rtab .any (opsOf Try.f9 5) = laws_FnTurnPlain.T5 := by kernel_rfl
theorem laws_FnTurnPlain.bits5 : waitsOk laws_FnTurnPlain.T5.2 laws_FnTurnPlain.B5 = true := by kernel_rfl
def laws_FnTurnPlain.T7 : Bool × List (List Nat × List Nat) := (true, [([], []), ([0], [0]), ([], []), ([1, 2, 1], [1, 2]), ([3, 3], [3]), ([4], [4]), ([5, 4, 4], [4, 5]), ([4, 6], [4, 6]), ([7, 6], [7]), ([8], [8]), ([9, 8, 8], [8, 9]), ([8], [8]), ([11, 10, 8], [8, 11]), ([10, 12, 8], [8, 10, 12]), ([8, 13], [8, 13]), ([14, 12, 0, 1, 2, 3, 4, 5, 6, 7, 8, 9, 10, 11, 12, 13, 14], [14])])
def laws_FnTurnPlain.B7 : List Nat := [0, 1, 0, 7, 15, 31, 63, 127, 255, 511, 1023, 511, 4095, 8191, 16383, 32767]
theorem laws_FnTurnPlain.tab7 : rtab .any (opsOf Try.f9 7) = laws_FnTurnPlain.T7 := by kernel_rfl
theorem laws_FnTurnPlain.bits7 : waitsOk laws_FnTurnPlain.T7.2 laws_FnTurnPlain.B7 = true := by kernel_rfl
set_option maxHeartbeats 8000000 in
set_option maxRecDepth 100000 in
theorem laws_FnTurnPlain.calls (k : Nat) (A0 : Option Addr) (c0 : Nat) (l0 : List Int) (r : Bool) (w : World) (hr0 : Kd.C (Kd.int .u8) w A0 l0.length l0) (hc0 : l0.length ≤ c0) (h : laws_FnTurnPlain.f k l0 = some r) :
  Calls Try.prog 9 #[.slice A0 l0.length c0] w fun e w' => e = .returned (.bool r) ∧ Below w.heap.size w w' := by
 have hu35 := Try.underlying35
 have HR0 := am_ hr0
 have HC0 := am_ hc0
 clear hr0 hc0
 have HB := am_ (Below.refl w.heap.size w)
 have H : (if (l0.length : Int) > 1048576 then (some true) else ((spec_DrawTurnPlain.f k l0).bind fun t874 => ((impl_TurnPlain.f k t874).bind fun t878 => ((spec_TurnPlain.f k t874).bind fun t882 => ((laws_lpProg.f k t878 t882).bind fun t885 => (if t885 = true then ((spec_ProgOk.f k t874).bind fun t886 => (laws_FnTurnPlain.j0 k (!t886) t874 t878)) else (laws_FnTurnPlain.j0 k true t874 t878))))))) = some r := h
 clear h
 by_cases c2 : (l0.length : Int) > 1048576
 ·rw [if_pos c2] at H
  have c2b0 : decide (1048576 < (l0.length : Int)) = true := decide_eq_true c2
  have c2b1 : decide (1048576 < l0.length) = true := decide_eq_true (by omega)
  clear c2
  obtain rfl := Option.some.inj H
  go_enter Try.func9, Try.ntmps9
  go_wp2
  go_ret
  exact ⟨z9_2, z9_3⟩
 ·rw [if_neg c2] at H
  have c2b0 : decide (1048576 < (l0.length : Int)) = false := decide_eq_false c2
  have c2b1 : decide (1048576 < l0.length) = false := decide_eq_false (by omega)
  clear c2
  replace H := Option.bind_eq_some_iff.mp H
  obtain ⟨t874, A30, H⟩ := H
  replace H : ((impl_TurnPlain.f k t874).bind fun t878 => ((spec_TurnPlain.f k t874).bind fun t882 => ((laws_lpProg.f k t878 t882).bind fun t885 => (if t885 = true then ((spec_ProgOk.f k t874).bind fun t886 => (laws_FnTurnPlain.j0 k (!t886) t874 t878)) else (laws_FnTurnPlain.j0 k true t874 t878))))) = some r := H
  have A3 := am_ A30
  clear A30
  replace H := Option.bind_eq_some_iff.mp H
  obtain ⟨t878, A40, H⟩ := H
  replace H : ((spec_TurnPlain.f k t874).bind fun t882 => ((laws_lpProg.f k t878 t882).bind fun t885 => (if t885 = true then ((spec_ProgOk.f k t874).bind fun t886 => (laws_FnTurnPlain.j0 k (!t886) t874 t878)) else (laws_FnTurnPlain.j0 k true t874 t878)))) = some r := H
  have A4 := am_ A40
  clear A40
  have HC5 := am_ H
  clear H
  go_enter Try.func9, Try.ntmps9
  go_upto_region 5 with (first | ((with_reducible refine gate_callee (f := 41) rfl ?_); refine goesL_ (some 9) rfl rfl Try.func41 (by kernel_rfl) rfl #[.slice A0 l0.length c0] rfl (by (try simp only [List.map_toArray, List.map_cons, List.map_nil]); first | done | rfl | (simp only [List.length_drop, List.length_take]; rfl)) ?_; (with_reducible refine (spec_DrawTurnPlain.calls k _ _ l0 t874 _ ?side1 ?side2 A3.out).mono ?_); (case side1 => repeat (first | exact HR0.out | (with_reducible refine Kd.C_alloc ?_ _) | (with_reducible refine Kd.C_drewN ?_ _) | (with_reducible refine Kd.C_drew ?_))); (case side2 => exact HC0.out); rintro e w6 ⟨v875, rfl, ho0, hb⟩; refine ⟨_, rfl, ?_⟩; have n0_ := am_ (Kd.N_lower (Kd.N_mono (ok' := fun k_ => True) ho0 (fun k_ hk_ => trivial)) (below_size z9_3)); have n1_ := am_ (below_step z9_3 hb); clear HB; have HO876 := n0_; have HB := n1_; clear n0_ n1_; (try clear hb); (try clear hb2); (try clear hk); (try clear hi); (try clear ho0)) | ((with_reducible refine gate_dst (N := 3) rfl ?_); refine box_event ?hg (N := 3) ?hd (cs := #[.slice none 0 0]) (t := 35) ?hr ?_; (case hd => rfl); (case hg => rfl); (case hr => first | (go_simp; done) | (go_simp; rfl)); intro gb877 hg w7 hbox hb; have n0_ := am_ (Kd.N_below (Kd.N_elderB (nu HO876.out) gb877 (Nat.le_of_eq hg.symm)) hb); have n1_ := am_ (below_step z9_3 hb); have n2_ := am_ (hbox); have n3_ := am_ (by rw [hg]; exact (below_size z9_3) : w.heap.size ≤ gb877); have n4_ := am_ (by rw [hg]; exact (below_size z9_3) : w.heap.size ≤ gb877); clear HO876 HB; have HO876 := n0_; have HB := n1_; have BK877 := n2_; have GW877 := n3_; have GE877 := n4_; clear n0_ n1_ n2_ n3_ n4_; clear hb hbox hg; obtain ⟨Ao8, co8, eo8⟩ := Kd.N_slice HO876.out; subst eo8; have hcz9_0 : w7.cell? ⟨gb877, 0, none⟩ = some (.slice none 0 0) := (blk_cell BK877.out 0).trans rfl; have hfz9_0 := blk_frozen BK877.out 0) | ((with_reducible refine gate_callee (f := 35) rfl ?_); refine goesL_ (some 11) rfl rfl Try.func35 (by kernel_rfl) rfl #[.agg #[.slice Ao8 t874.length co8]] rfl (by (try simp only [List.map_toArray, List.map_cons, List.map_nil]); first | done | rfl | (simp only [List.length_drop, List.length_take]; rfl)) ?_; (with_reducible refine (impl_TurnPlain.calls k _ _ t874 t878 _ ?side1 ?side2 A4.out).mono ?_); (case side1 => refine (Kd.N_reads' (e := 82) (base := w.heap.size) (ok := fun k_ => (True ∧ k_ ≠ gb877)) (n := t874.length) (c := co8) ?_).2.2; exact (nu (Kd.N_mono (Kd.N_far (p := ⟨gb877, 0, none⟩) (Kd.N_mono HO876.out (fun k_ hk => (⟨hk, hk.2⟩ : _ ∧ k_ ≠ gb877))) (fun _ hk => hk.2) (.slice Ao8 t874.length co8)) (fun _ h_ => h_.1)))); (case side2 => exact (Kd.N_reads' HO876.out).2.1); rintro e w10 ⟨v879, rfl, ho0, hb⟩; refine ⟨_, rfl, ?_⟩; have n0_ := am_ (Kd.N_elder' (nu (Kd.N_mono (Kd.N_far (p := ⟨gb877, 0, none⟩) (Kd.N_mono HO876.out (fun k_ hk => (⟨hk, hk.2⟩ : _ ∧ k_ ≠ gb877))) (fun _ hk => hk.2) (.slice Ao8 t874.length co8)) (fun _ h_ => h_.1))) z9_1 hb); have n1_ := am_ (Kd.N_lower (Kd.N_mono (ok' := fun k_ => some k_ ≠ (.slice Ao8 t874.length co8 : Value).ownBlock ∧ k_ ≠ gb877) (Kd.S_N (Kd.S_bound ho0)) (fun k_ hk_ => ⟨(Kd.fresh' (Kd.N_lt (nu (Kd.N_mono (Kd.N_far (p := ⟨gb877, 0, none⟩) (Kd.N_mono HO876.out (fun k_ hk => (⟨hk, hk.2⟩ : _ ∧ k_ ≠ gb877))) (fun _ hk => hk.2) (.slice Ao8 t874.length co8)) (fun _ h_ => h_.1)))) k_ hk_.2.1), (Kd.freshB (g := gb877) (o := .cells #[.slice Ao8 t874.length co8] 35 (0, 0)) z9_7 k_ hk_.2.1)⟩)) (below_size z9_4)); have n2_ := am_ (blk_below (g := gb877) (o := .cells #[.slice Ao8 t874.length co8] 35 (0, 0)) z9_7 hb); have n3_ := am_ (below_step z9_4 hb); clear HO876 BK877 HB; have HO876 := n0_; have HO880 := n1_; have BK877 := n2_; have HB := n3_; clear n0_ n1_ n2_ n3_; (try clear hb); (try clear hb2); (try clear hk); (try clear hi); (try clear ho0)) | ((with_reducible refine gate_dst (N := 4) rfl ?_); refine box_event ?hg (N := 4) ?hd (cs := #[.slice none 0 0]) (t := 35) ?hr ?_; (case hd => rfl); (case hg => rfl); (case hr => first | (go_simp; done) | (go_simp; rfl)); intro gb881 hg w11 hbox hb; have n0_ := am_ (Kd.N_below (Kd.N_elderB (nu HO876.out) gb881 (Nat.le_of_eq hg.symm)) hb); have n1_ := am_ (Kd.N_below (Kd.N_elderB (nu HO880.out) gb881 (Nat.le_of_eq hg.symm)) hb); have n2_ := am_ (blk_below (bu BK877.out) hb); have n3_ := am_ (below_step z9_4 hb); have n4_ := am_ (hbox); have n5_ := am_ (by rw [hg]; exact (below_size z9_4) : w.heap.size ≤ gb881); have n6_ := am_ (by rw [hg]; exact (below_size z9_4) : w.heap.size ≤ gb881); have n7_ := am_ (by rw [hg]; exact Nat.ne_of_lt (blk_lt (bu BK877.out)) : gb877 ≠ gb881); have n8_ := am_ (by rw [hg]; exact Nat.ne_of_gt (blk_lt (bu BK877.out)) : gb881 ≠ gb877); clear HO876 HO880 BK877 HB; have HO876 := n0_; have HO880 := n1_; have BK877 := n2_; have HB := n3_; have BK881 := n4_; have GW881 := n5_; have GE881 := n6_; have NB877_881 := n7_; have NB881_877 := n8_; clear n0_ n1_ n2_ n3_ n4_ n5_ n6_ n7_ n8_; clear hb hbox hg; obtain ⟨Ao12, co12, eo12⟩ := Kd.N_slice HO880.out; subst eo12; have hnb13 := NB881_877.out; have hnc13 := NB877_881.out; have hcz14_0 : w11.cell? ⟨gb881, 0, none⟩ = some (.slice none 0 0) := (blk_cell BK881.out 0).trans rfl; have hfz14_0 := blk_frozen BK881.out 0))
  (try simp only [Act.put, List.setIfInBounds_toArray, List.set_cons_zero, List.set_cons_succ])
  go_cut [21] (fun v21 wc => ∃ (kq : Nat) (x21_4 : Bool), v21 = .bool x21_4 ∧ Aside0 (laws_FnTurnPlain.j0 kq x21_4 t874 t878 = some r) ∧ Aside0 (kq ≤ k) ∧ Aside0 (Kd.N (Kd.slice 85 k85) 82 wc w.heap.size (fun k_ => some k_ ≠ ((.slice Ao12 t878.length co12) : Value).ownBlock ∧ k_ ≠ gb877 ∧ k_ ≠ gb881) (.slice Ao8 t874.length co8) t874) ∧ Aside0 (Kd.N (Kd.slice 85 k85) 82 wc w.heap.size (fun k_ => some k_ ≠ ((.slice Ao8 t874.length co8) : Value).ownBlock ∧ k_ ≠ gb877 ∧ k_ ≠ gb881) (.slice Ao12 t878.length co12) t878) ∧ Aside0 (wc.heap[gb877]? = some (.cells #[(.slice Ao8 t874.length co8)] 35 (0, 0))) ∧ Aside0 (wc.heap[gb881]? = some (.cells #[(.slice Ao12 t878.length co12)] 35 (0, 0))) ∧ Aside0 (Below w.heap.size w wc))
  case first =>
   have H := HC5.out
   clear HC5
   replace H := Option.bind_eq_some_iff.mp H
   obtain ⟨t882, A150, H⟩ := H
   replace H : ((laws_lpProg.f k t878 t882).bind fun t885 => (if t885 = true then ((spec_ProgOk.f k t874).bind fun t886 => (laws_FnTurnPlain.j0 k (!t886) t874 t878)) else (laws_FnTurnPlain.j0 k true t874 t878))) = some r := H
   have A15 := am_ A150
   clear A150
   replace H := Option.bind_eq_some_iff.mp H
   obtain ⟨t885, A160, H⟩ := H
   replace H : (if t885 = true then ((spec_ProgOk.f k t874).bind fun t886 => (laws_FnTurnPlain.j0 k (!t886) t874 t878)) else (laws_FnTurnPlain.j0 k true t874 t878)) = some r := H
   have A16 := am_ A160
   clear A160
   by_cases c17 : t885 = true
   ·subst c17
    have H1 : ((spec_ProgOk.f k t874).bind fun t886 => (laws_FnTurnPlain.j0 k (!t886) t874 t878)) = some r := by rw [if_pos rfl] at H; exact H
    clear H
    have H := H1
    clear H1
    replace H := Option.bind_eq_some_iff.mp H
    obtain ⟨t886, A180, H⟩ := H
    replace H : (laws_FnTurnPlain.j0 k (!t886) t874 t878) = some r := H
    have A18 := am_ A180
    clear A180
    have H' := am_ H
    clear H
    try go_wp2
    have n0_ : Aside0 (Kd.N (Kd.slice 85 k85) 82 (w11.setCell ⟨gb881, 0, none⟩ (.slice Ao12 t878.length co12)) w.heap.size (fun k_ => some k_ ≠ (.slice Ao12 t878.length co12 : Value).ownBlock ∧ k_ ≠ gb877 ∧ k_ ≠ gb881) (.slice Ao8 t874.length co8) t874) := ⟨nu (Kd.N_mono (Kd.N_far (p := ⟨gb881, 0, none⟩) (Kd.N_mono HO876.out (fun k_ hk => (⟨hk, hk.2⟩ : _ ∧ k_ ≠ gb881))) (fun _ hk => hk.2) (.slice Ao12 t878.length co12)) (fun _ hk => ⟨hk.1.1.2, ⟨hk.1.1.1.2, hk.1.2⟩⟩))⟩
    have n1_ : Aside0 (Kd.N (Kd.slice 85 k85) 82 (w11.setCell ⟨gb881, 0, none⟩ (.slice Ao12 t878.length co12)) w.heap.size (fun k_ => some k_ ≠ (.slice Ao8 t874.length co8 : Value).ownBlock ∧ k_ ≠ gb877 ∧ k_ ≠ gb881) (.slice Ao12 t878.length co12) t878) := ⟨nu (Kd.N_mono (Kd.N_far (p := ⟨gb881, 0, none⟩) (Kd.N_mono HO880.out (fun k_ hk => (⟨hk, hk.2⟩ : _ ∧ k_ ≠ gb881))) (fun _ hk => hk.2) (.slice Ao12 t878.length co12)) (fun _ hk => ⟨hk.1.1.1, ⟨hk.1.1.2, hk.1.2⟩⟩))⟩
    have n2_ : Aside0 ((w11.setCell ⟨gb881, 0, none⟩ (.slice Ao12 t878.length co12)).heap[gb877]? = some (.cells #[.slice Ao8 t874.length co8] 35 (0, 0))) := ⟨z9_6⟩
    have n3_ : Aside0 ((w11.setCell ⟨gb881, 0, none⟩ (.slice Ao12 t878.length co12)).heap[gb881]? = some (.cells #[.slice Ao12 t878.length co12] 35 (0, 0))) := ⟨z9_8⟩
    have n4_ : Aside0 (Below w.heap.size w (w11.setCell ⟨gb881, 0, none⟩ (.slice Ao12 t878.length co12))) := ⟨z9_5⟩
    (try clear HO876)
    (try clear HO880)
    (try clear BK877)
    (try clear BK881)
    (try clear HB)
    generalize (w11.setCell ⟨gb881, 0, none⟩ (.slice Ao12 t878.length co12)) = w19 at n0_ n1_ n2_ n3_ n4_ ⊢
    have HO876 := n0_
    have HO880 := n1_
    have BK877 := n2_
    have BK881 := n3_
    have HB := n4_
    clear n0_ n1_ n2_ n3_ n4_
    have n0_ := am_ (Kd.N_drew HO876.out)
    have n1_ := am_ (Kd.N_drew HO880.out)
    have n2_ := am_ (blk_drew BK877.out)
    have n3_ := am_ (blk_drew BK881.out)
    have n4_ := am_ (below_drew1 HB.out)
    clear HO876 HO880 BK877 BK881 HB
    have HO876 := n0_
    have HO880 := n1_
    have BK877 := n2_
    have BK881 := n3_
    have HB := n4_
    clear n0_ n1_ n2_ n3_ n4_
    refine start_ (n := 10) (S := fun w' => w'.cell? ⟨gb881, 0, none⟩ = some (.slice Ao12 t878.length co12) ∧ w'.cell? ⟨gb877, 0, none⟩ = some (.slice Ao8 t874.length co8)) (ds := []) #[false, false, false, false, false, false, false, false, false, false] (by kernel_rfl) rfl rfl ⟨(blk_cell BK881.out 0).trans rfl, (blk_cell BK877.out 0).trans rfl⟩ (fun hHeld => ?_); refine with_tabW laws_FnTurnPlain.tab5 laws_FnTurnPlain.bits5 (fun HT_ HW_ => ?_)
    generalize w19.drew = w20 at HO876 HO880 BK877 BK881 HB hHeld ⊢
    refine take_ (i := 0) (N := some 12) (v := ?_) (a' := ?_) #[true, false, false, false, false, false, false, false, false, false] rfl rfl (take_ofW HT_.out HW_.out (by kernel_rfl)) (fun _ _ _ h => h) (Or.inl ⟨by rfl, ?_⟩) hHeld ?_ ?_
    rotate_left
    ·rintro w' ⟨s0, s1⟩
     go_simp
     with_reducible rfl
    rotate_left
    ·simp only [Act.put, List.setIfInBounds_toArray, List.set_cons_zero, List.set_cons_succ, i64_w, i32_w]
     rfl
    refine take_ (i := 1) (N := some 13) (v := ?_) (a' := ?_) #[true, true, false, false, false, false, false, false, false, false] rfl rfl (take_ofW HT_.out HW_.out (by kernel_rfl)) (fun _ _ _ h => h) (Or.inl ⟨by rfl, ?_⟩) hHeld ?_ ?_
    rotate_left
    ·rintro w' ⟨s0, s1⟩
     go_simp
     with_reducible rfl
    rotate_left
    ·simp only [Act.put, List.setIfInBounds_toArray, List.set_cons_zero, List.set_cons_succ, i64_w, i32_w]
     rfl
    refine one_ (i := 2) (N := some 14) #[true, true, true, false, false, false, false, false, false, false] rfl rfl (one_of HT_.out (by kernel_rfl)) (by decide) (fun K hK => ?_)
    refine goes_ Try.func42 (by kernel_rfl) rfl #[.agg #[.slice Ao8 t874.length co8]] (by rfl) rfl rfl (by (try simp only [List.map_toArray, List.map_cons, List.map_nil]); first | done | rfl | (simp only [List.length_drop, List.length_take]; rfl)) ?_
    with_reducible refine (spec_TurnPlain.calls k _ _ t874 t882 _ ?side1 ?side2 A15.out).mono ?_
    (case side1 => repeat (first | exact (Kd.N_reads' HO876.out).2.2 | (with_reducible refine Kd.C_alloc ?_ _) | (with_reducible refine Kd.C_drewN ?_ _) | (with_reducible refine Kd.C_drew ?_)))
    (case side2 => exact (Kd.N_reads' HO876.out).2.1)
    rintro e w21 ⟨v883, rfl, ho0, hb⟩
    refine ⟨_, rfl, ?_⟩
    have n0_ := am_ (Kd.N_elder' (nu HO876.out) z9_1 hb)
    have n1_ := am_ (Kd.N_elder' (nu HO880.out) z9_1 hb)
    have n2_ := am_ (Kd.N_lower (Kd.N_mono (ok' := fun k_ => some k_ ≠ (.slice Ao8 t874.length co8 : Value).ownBlock ∧ some k_ ≠ (.slice Ao12 t878.length co12 : Value).ownBlock ∧ k_ ≠ gb877 ∧ k_ ≠ gb881) (Kd.S_N (Kd.S_bound ho0)) (fun k_ hk_ => ⟨(Kd.fresh' (Kd.N_lt (nu HO876.out)) k_ hk_.2.1), (Kd.fresh' (Kd.N_lt (nu HO880.out)) k_ hk_.2.1), (Kd.freshB (bu BK877.out) k_ hk_.2.1), (Kd.freshB (bu BK881.out) k_ hk_.2.1)⟩)) (below_size z9_5))
    have n3_ := am_ (blk_below (bu BK877.out) hb)
    have n4_ := am_ (blk_below (bu BK881.out) hb)
    have n5_ := am_ (below_step z9_5 hb)
    clear HO876 HO880 BK877 BK881 HB
    have HO876 := n0_
    have HO880 := n1_
    have HO884 := n2_
    have BK877 := n3_
    have BK881 := n4_
    have HB := n5_
    clear n0_ n1_ n2_ n3_ n4_ n5_
    (try clear hb)
    (try clear hb2)
    (try clear hk)
    (try clear hi)
    (try clear ho0)
    obtain ⟨Ao22, co22, eo22⟩ := Kd.N_slice HO884.out
    (first | subst eo22 | (injection eo22 with f1_ f2_ f3_; have f4_ := f1_.symm; have f5_ := f3_.symm; clear f1_ f2_ f3_; subst f4_; subst f5_))
    refine hK.out _ _ ⟨(blk_cell BK881.out 0).trans rfl, (blk_cell BK877.out 0).trans rfl⟩ (fun hHeld => ?_)
    clear hK K
    refine norm_ (a' := ?_) ?_ ?_
    rotate_left
    ·show Act.put _ (some 14) _ = _
     simp only [Act.put, List.setIfInBounds_toArray, List.set_cons_zero, List.set_cons_succ, i64_w, i32_w]
     rfl
    refine one_ (i := 3) (N := some 15) #[true, true, true, true, false, false, false, false, false, false] rfl rfl (one_of HT_.out (by kernel_rfl)) (by decide) (fun K hK => ?_)
    refine goes_ Try.func30 (by kernel_rfl) rfl #[.agg #[.slice Ao12 t878.length co12], .agg #[.slice Ao22 t882.length co22]] (by rfl) rfl rfl (by (try simp only [List.map_toArray, List.map_cons, List.map_nil]); first | done | rfl | (simp only [List.length_drop, List.length_take]; rfl)) ?_
    with_reducible refine (laws_lpProg.calls k _ _ t878 _ _ t882 true _ ?side1 ?side2 ?side3 ?side4 A16.out).mono ?_
    (case side1 => repeat (first | exact (Kd.N_reads' HO880.out).2.2 | (with_reducible refine Kd.C_alloc ?_ _) | (with_reducible refine Kd.C_drewN ?_ _) | (with_reducible refine Kd.C_drew ?_)))
    (case side2 => exact (Kd.N_reads' HO880.out).2.1)
    (case side3 => repeat (first | exact (Kd.N_reads' HO884.out).2.2 | (with_reducible refine Kd.C_alloc ?_ _) | (with_reducible refine Kd.C_drewN ?_ _) | (with_reducible refine Kd.C_drew ?_)))
    (case side4 => exact (Kd.N_reads' HO884.out).2.1)
    rintro e w23 ⟨rfl, hb⟩
    refine ⟨_, rfl, ?_⟩
    have n0_ := am_ (Kd.N_below (nu HO876.out) hb)
    have n1_ := am_ (Kd.N_below (nu HO880.out) hb)
    have n2_ := am_ (Kd.N_below (nu HO884.out) hb)
    have n3_ := am_ (blk_below (bu BK877.out) hb)
    have n4_ := am_ (blk_below (bu BK881.out) hb)
    have n5_ := am_ (below_step z9_5 hb)
    clear HO876 HO880 HO884 BK877 BK881 HB
    have HO876 := n0_
    have HO880 := n1_
    have HO884 := n2_
    have BK877 := n3_
    have BK881 := n4_
    have HB := n5_
    clear n0_ n1_ n2_ n3_ n4_ n5_
    (try clear hb)
    (try clear hb2)
    (try clear hk)
    (try clear hi)
    refine hK.out _ _ ⟨(blk_cell BK881.out 0).trans rfl, (blk_cell BK877.out 0).trans rfl⟩ (fun hHeld => ?_)
    clear hK K
    refine norm_ (a' := ?_) ?_ ?_
    rotate_left
    ·show Act.put _ (some 15) _ = _
     simp only [Act.put, List.setIfInBounds_toArray, List.set_cons_zero, List.set_cons_succ, i64_w, i32_w]
     rfl
    refine pure_ (i := 4) (N := some 16) (v := ?_) (a' := ?_) #[true, true, true, true, true, false, false, false, false, false] rfl rfl (any_of HT_.out (by kernel_rfl)) (fun _ _ _ h => h) (Or.inl ⟨by rfl, ?_⟩) ?_ ?_
    rotate_left
    ·intro w'
     go_simp
     with_reducible rfl
    rotate_left
    ·simp only [Act.put, List.setIfInBounds_toArray, List.set_cons_zero, List.set_cons_succ, i64_w, i32_w]
     rfl
    refine pure_ (i := 5) (N := some 17) (v := ?_) (a' := ?_) #[true, true, true, true, true, true, false, false, false, false] rfl rfl (any_of HT_.out (by kernel_rfl)) (fun _ _ _ h => h) (Or.inl ⟨by rfl, ?_⟩) ?_ ?_
    rotate_left
    ·intro w'
     go_simp
     with_reducible rfl
    rotate_left
    ·simp only [Act.put, List.setIfInBounds_toArray, List.set_cons_zero, List.set_cons_succ, i64_w, i32_w]
     rfl
    refine take_ (i := 6) (N := some 18) (v := ?_) (a' := ?_) #[true, true, true, true, true, true, true, false, false, false] rfl rfl (take_ofW HT_.out HW_.out (by kernel_rfl)) (fun _ _ _ h => h) (Or.inl ⟨by rfl, ?_⟩) hHeld ?_ ?_
    rotate_left
    ·rintro w' ⟨s0, s1⟩
     go_simp
     with_reducible rfl
    rotate_left
    ·simp only [Act.put, List.setIfInBounds_toArray, List.set_cons_zero, List.set_cons_succ, i64_w, i32_w]
     rfl
    refine one_ (i := 7) (N := some 19) #[true, true, true, true, true, true, true, true, false, false] rfl rfl (one_of HT_.out (by kernel_rfl)) (by decide) (fun K hK => ?_)
    refine goes_ Try.func43 (by kernel_rfl) rfl #[.agg #[.slice Ao8 t874.length co8]] (by rfl) rfl rfl (by (try simp only [List.map_toArray, List.map_cons, List.map_nil]); first | done | rfl | (simp only [List.length_drop, List.length_take]; rfl)) ?_
    with_reducible refine (spec_ProgOk.calls k _ _ t874 t886 _ ?side1 ?side2 A18.out).mono ?_
    (case side1 => repeat (first | exact (Kd.N_reads' HO876.out).2.2 | (with_reducible refine Kd.C_alloc ?_ _) | (with_reducible refine Kd.C_drewN ?_ _) | (with_reducible refine Kd.C_drew ?_)))
    (case side2 => exact (Kd.N_reads' HO876.out).2.1)
    rintro e w24 ⟨rfl, hb⟩
    refine ⟨_, rfl, ?_⟩
    have n0_ := am_ (Kd.N_below (nu HO876.out) hb)
    have n1_ := am_ (Kd.N_below (nu HO880.out) hb)
    have n2_ := am_ (Kd.N_below (nu HO884.out) hb)
    have n3_ := am_ (blk_below (bu BK877.out) hb)
    have n4_ := am_ (blk_below (bu BK881.out) hb)
    have n5_ := am_ (below_step z9_5 hb)
    clear HO876 HO880 HO884 BK877 BK881 HB
    have HO876 := n0_
    have HO880 := n1_
    have HO884 := n2_
    have BK877 := n3_
    have BK881 := n4_
    have HB := n5_
    clear n0_ n1_ n2_ n3_ n4_ n5_
    (try clear hb)
    (try clear hb2)
    (try clear hk)
    (try clear hi)
    refine hK.out _ _ ⟨(blk_cell BK881.out 0).trans rfl, (blk_cell BK877.out 0).trans rfl⟩ (fun hHeld => ?_)
    clear hK K
    refine norm_ (a' := ?_) ?_ ?_
    rotate_left
    ·show Act.put _ (some 19) _ = _
     simp only [Act.put, List.setIfInBounds_toArray, List.set_cons_zero, List.set_cons_succ, i64_w, i32_w]
     rfl
    refine pure_ (i := 8) (N := some 20) (v := ?_) (a' := ?_) #[true, true, true, true, true, true, true, true, true, false] rfl rfl (any_of HT_.out (by kernel_rfl)) (fun _ _ _ h => h) (Or.inl ⟨by rfl, ?_⟩) ?_ ?_
    rotate_left
    ·intro w'
     go_simp
     with_reducible rfl
    rotate_left
    ·simp only [Act.put, List.setIfInBounds_toArray, List.set_cons_zero, List.set_cons_succ, i64_w, i32_w]
     rfl
    refine pure_ (i := 9) (N := some 21) (v := ?_) (a' := ?_) #[true, true, true, true, true, true, true, true, true, true] rfl rfl (any_of HT_.out (by kernel_rfl)) (fun _ _ _ h => h) (Or.inl ⟨by rfl, ?_⟩) ?_ ?_
    rotate_left
    ·intro w'
     go_simp
     with_reducible rfl
    rotate_left
    ·simp only [Act.put, List.setIfInBounds_toArray, List.set_cons_zero, List.set_cons_succ, i64_w, i32_w]
     rfl
    refine done_ (done_of HT_.out (by kernel_rfl)) ?_
    try go_wp2
    go_meet
    case rel => exact ⟨_, (!t886), (by first | rfl | (simp; done) | (simp [*]; done)), H', ⟨by first | omega | exact Nat.le_refl _⟩, ⟨nu (Kd.N_mono HO876.out (fun _ hk => ⟨hk.1.1, ⟨hk.1.2.1, hk.1.2.2⟩⟩))⟩, ⟨nu (Kd.N_mono HO880.out (fun _ hk => ⟨hk.1.1, ⟨hk.1.2.1, hk.1.2.2⟩⟩))⟩, ⟨bu BK877.out⟩, ⟨bu BK881.out⟩, ⟨z9_5⟩⟩
   ·replace c17 := Bool.eq_false_iff.mpr c17
    subst c17
    have H1 : (laws_FnTurnPlain.j0 k true t874 t878) = some r := by rw [if_neg (show ¬ (false = true) by decide)] at H; exact H
    clear H
    have H := H1
    clear H1
    have H' := am_ H
    clear H
    try go_wp2
    have n0_ : Aside0 (Kd.N (Kd.slice 85 k85) 82 (w11.setCell ⟨gb881, 0, none⟩ (.slice Ao12 t878.length co12)) w.heap.size (fun k_ => some k_ ≠ (.slice Ao12 t878.length co12 : Value).ownBlock ∧ k_ ≠ gb877 ∧ k_ ≠ gb881) (.slice Ao8 t874.length co8) t874) := ⟨nu (Kd.N_mono (Kd.N_far (p := ⟨gb881, 0, none⟩) (Kd.N_mono HO876.out (fun k_ hk => (⟨hk, hk.2⟩ : _ ∧ k_ ≠ gb881))) (fun _ hk => hk.2) (.slice Ao12 t878.length co12)) (fun _ hk => ⟨hk.1.1.2, ⟨hk.1.1.1.2, hk.1.2⟩⟩))⟩
    have n1_ : Aside0 (Kd.N (Kd.slice 85 k85) 82 (w11.setCell ⟨gb881, 0, none⟩ (.slice Ao12 t878.length co12)) w.heap.size (fun k_ => some k_ ≠ (.slice Ao8 t874.length co8 : Value).ownBlock ∧ k_ ≠ gb877 ∧ k_ ≠ gb881) (.slice Ao12 t878.length co12) t878) := ⟨nu (Kd.N_mono (Kd.N_far (p := ⟨gb881, 0, none⟩) (Kd.N_mono HO880.out (fun k_ hk => (⟨hk, hk.2⟩ : _ ∧ k_ ≠ gb881))) (fun _ hk => hk.2) (.slice Ao12 t878.length co12)) (fun _ hk => ⟨hk.1.1.1, ⟨hk.1.1.2, hk.1.2⟩⟩))⟩
    have n2_ : Aside0 ((w11.setCell ⟨gb881, 0, none⟩ (.slice Ao12 t878.length co12)).heap[gb877]? = some (.cells #[.slice Ao8 t874.length co8] 35 (0, 0))) := ⟨z9_6⟩
    have n3_ : Aside0 ((w11.setCell ⟨gb881, 0, none⟩ (.slice Ao12 t878.length co12)).heap[gb881]? = some (.cells #[.slice Ao12 t878.length co12] 35 (0, 0))) := ⟨z9_8⟩
    have n4_ : Aside0 (Below w.heap.size w (w11.setCell ⟨gb881, 0, none⟩ (.slice Ao12 t878.length co12))) := ⟨z9_5⟩
    (try clear HO876)
    (try clear HO880)
    (try clear BK877)
    (try clear BK881)
    (try clear HB)
    generalize (w11.setCell ⟨gb881, 0, none⟩ (.slice Ao12 t878.length co12)) = w25 at n0_ n1_ n2_ n3_ n4_ ⊢
    have HO876 := n0_
    have HO880 := n1_
    have BK877 := n2_
    have BK881 := n3_
    have HB := n4_
    clear n0_ n1_ n2_ n3_ n4_
    have n0_ := am_ (Kd.N_drew HO876.out)
    have n1_ := am_ (Kd.N_drew HO880.out)
    have n2_ := am_ (blk_drew BK877.out)
    have n3_ := am_ (blk_drew BK881.out)
    have n4_ := am_ (below_drew1 HB.out)
    clear HO876 HO880 BK877 BK881 HB
    have HO876 := n0_
    have HO880 := n1_
    have BK877 := n2_
    have BK881 := n3_
    have HB := n4_
    clear n0_ n1_ n2_ n3_ n4_
    refine start_ (n := 10) (S := fun w' => w'.cell? ⟨gb881, 0, none⟩ = some (.slice Ao12 t878.length co12) ∧ w'.cell? ⟨gb877, 0, none⟩ = some (.slice Ao8 t874.length co8)) (ds := []) #[false, false, false, false, false, false, false, false, false, false] (by kernel_rfl) rfl rfl ⟨(blk_cell BK881.out 0).trans rfl, (blk_cell BK877.out 0).trans rfl⟩ (fun hHeld => ?_); refine with_tabW laws_FnTurnPlain.tab5 laws_FnTurnPlain.bits5 (fun HT_ HW_ => ?_)
    generalize w25.drew = w26 at HO876 HO880 BK877 BK881 HB hHeld ⊢
    refine take_ (i := 0) (N := some 12) (v := ?_) (a' := ?_) #[true, false, false, false, false, false, false, false, false, false] rfl rfl (take_ofW HT_.out HW_.out (by kernel_rfl)) (fun _ _ _ h => h) (Or.inl ⟨by rfl, ?_⟩) hHeld ?_ ?_
    rotate_left
    ·rintro w' ⟨s0, s1⟩
     go_simp
     with_reducible rfl
    rotate_left
    ·simp only [Act.put, List.setIfInBounds_toArray, List.set_cons_zero, List.set_cons_succ, i64_w, i32_w]
     rfl
    refine take_ (i := 1) (N := some 13) (v := ?_) (a' := ?_) #[true, true, false, false, false, false, false, false, false, false] rfl rfl (take_ofW HT_.out HW_.out (by kernel_rfl)) (fun _ _ _ h => h) (Or.inl ⟨by rfl, ?_⟩) hHeld ?_ ?_
    rotate_left
    ·rintro w' ⟨s0, s1⟩
     go_simp
     with_reducible rfl
    rotate_left
    ·simp only [Act.put, List.setIfInBounds_toArray, List.set_cons_zero, List.set_cons_succ, i64_w, i32_w]
     rfl
    refine one_ (i := 2) (N := some 14) #[true, true, true, false, false, false, false, false, false, false] rfl rfl (one_of HT_.out (by kernel_rfl)) (by decide) (fun K hK => ?_)
    refine goes_ Try.func42 (by kernel_rfl) rfl #[.agg #[.slice Ao8 t874.length co8]] (by rfl) rfl rfl (by (try simp only [List.map_toArray, List.map_cons, List.map_nil]); first | done | rfl | (simp only [List.length_drop, List.length_take]; rfl)) ?_
    with_reducible refine (spec_TurnPlain.calls k _ _ t874 t882 _ ?side1 ?side2 A15.out).mono ?_
    (case side1 => repeat (first | exact (Kd.N_reads' HO876.out).2.2 | (with_reducible refine Kd.C_alloc ?_ _) | (with_reducible refine Kd.C_drewN ?_ _) | (with_reducible refine Kd.C_drew ?_)))
    (case side2 => exact (Kd.N_reads' HO876.out).2.1)
    rintro e w27 ⟨v883, rfl, ho0, hb⟩
    refine ⟨_, rfl, ?_⟩
    have n0_ := am_ (Kd.N_elder' (nu HO876.out) z9_1 hb)
    have n1_ := am_ (Kd.N_elder' (nu HO880.out) z9_1 hb)
    have n2_ := am_ (Kd.N_lower (Kd.N_mono (ok' := fun k_ => some k_ ≠ (.slice Ao8 t874.length co8 : Value).ownBlock ∧ some k_ ≠ (.slice Ao12 t878.length co12 : Value).ownBlock ∧ k_ ≠ gb877 ∧ k_ ≠ gb881) (Kd.S_N (Kd.S_bound ho0)) (fun k_ hk_ => ⟨(Kd.fresh' (Kd.N_lt (nu HO876.out)) k_ hk_.2.1), (Kd.fresh' (Kd.N_lt (nu HO880.out)) k_ hk_.2.1), (Kd.freshB (bu BK877.out) k_ hk_.2.1), (Kd.freshB (bu BK881.out) k_ hk_.2.1)⟩)) (below_size z9_5))
    have n3_ := am_ (blk_below (bu BK877.out) hb)
    have n4_ := am_ (blk_below (bu BK881.out) hb)
    have n5_ := am_ (below_step z9_5 hb)
    clear HO876 HO880 BK877 BK881 HB
    have HO876 := n0_
    have HO880 := n1_
    have HO884 := n2_
    have BK877 := n3_
    have BK881 := n4_
    have HB := n5_
    clear n0_ n1_ n2_ n3_ n4_ n5_
    (try clear hb)
    (try clear hb2)
    (try clear hk)
    (try clear hi)
    (try clear ho0)
    obtain ⟨Ao28, co28, eo28⟩ := Kd.N_slice HO884.out
    (first | subst eo28 | (injection eo28 with f1_ f2_ f3_; have f4_ := f1_.symm; have f5_ := f3_.symm; clear f1_ f2_ f3_; subst f4_; subst f5_))
    refine hK.out _ _ ⟨(blk_cell BK881.out 0).trans rfl, (blk_cell BK877.out 0).trans rfl⟩ (fun hHeld => ?_)
    clear hK K
    refine norm_ (a' := ?_) ?_ ?_
    rotate_left
    ·show Act.put _ (some 14) _ = _
     simp only [Act.put, List.setIfInBounds_toArray, List.set_cons_zero, List.set_cons_succ, i64_w, i32_w]
     rfl
    refine one_ (i := 3) (N := some 15) #[true, true, true, true, false, false, false, false, false, false] rfl rfl (one_of HT_.out (by kernel_rfl)) (by decide) (fun K hK => ?_)
    refine goes_ Try.func30 (by kernel_rfl) rfl #[.agg #[.slice Ao12 t878.length co12], .agg #[.slice Ao28 t882.length co28]] (by rfl) rfl rfl (by (try simp only [List.map_toArray, List.map_cons, List.map_nil]); first | done | rfl | (simp only [List.length_drop, List.length_take]; rfl)) ?_
    with_reducible refine (laws_lpProg.calls k _ _ t878 _ _ t882 false _ ?side1 ?side2 ?side3 ?side4 A16.out).mono ?_
    (case side1 => repeat (first | exact (Kd.N_reads' HO880.out).2.2 | (with_reducible refine Kd.C_alloc ?_ _) | (with_reducible refine Kd.C_drewN ?_ _) | (with_reducible refine Kd.C_drew ?_)))
    (case side2 => exact (Kd.N_reads' HO880.out).2.1)
    (case side3 => repeat (first | exact (Kd.N_reads' HO884.out).2.2 | (with_reducible refine Kd.C_alloc ?_ _) | (with_reducible refine Kd.C_drewN ?_ _) | (with_reducible refine Kd.C_drew ?_)))
    (case side4 => exact (Kd.N_reads' HO884.out).2.1)
    rintro e w29 ⟨rfl, hb⟩
    refine ⟨_, rfl, ?_⟩
    have n0_ := am_ (Kd.N_below (nu HO876.out) hb)
    have n1_ := am_ (Kd.N_below (nu HO880.out) hb)
    have n2_ := am_ (Kd.N_below (nu HO884.out) hb)
    have n3_ := am_ (blk_below (bu BK877.out) hb)
    have n4_ := am_ (blk_below (bu BK881.out) hb)
    have n5_ := am_ (below_step z9_5 hb)
    clear HO876 HO880 HO884 BK877 BK881 HB
    have HO876 := n0_
    have HO880 := n1_
    have HO884 := n2_
    have BK877 := n3_
    have BK881 := n4_
    have HB := n5_
    clear n0_ n1_ n2_ n3_ n4_ n5_
    (try clear hb)
    (try clear hb2)
    (try clear hk)
    (try clear hi)
    refine hK.out _ _ ⟨(blk_cell BK881.out 0).trans rfl, (blk_cell BK877.out 0).trans rfl⟩ (fun hHeld => ?_)
    clear hK K
    refine norm_ (a' := ?_) ?_ ?_
    rotate_left
    ·show Act.put _ (some 15) _ = _
     simp only [Act.put, List.setIfInBounds_toArray, List.set_cons_zero, List.set_cons_succ, i64_w, i32_w]
     rfl
    refine pure_ (i := 4) (N := some 16) (v := ?_) (a' := ?_) #[true, true, true, true, true, false, false, false, false, false] rfl rfl (any_of HT_.out (by kernel_rfl)) (fun _ _ _ h => h) (Or.inl ⟨by rfl, ?_⟩) ?_ ?_
    rotate_left
    ·intro w'
     go_simp
     with_reducible rfl
    rotate_left
    ·simp only [Act.put, List.setIfInBounds_toArray, List.set_cons_zero, List.set_cons_succ, i64_w, i32_w]
     rfl
    refine pure_ (i := 5) (N := some 17) (v := ?_) (a' := ?_) #[true, true, true, true, true, true, false, false, false, false] rfl rfl (any_of HT_.out (by kernel_rfl)) (fun _ _ _ h => h) (Or.inl ⟨by rfl, ?_⟩) ?_ ?_
    rotate_left
    ·intro w'
     go_simp
     with_reducible rfl
    rotate_left
    ·simp only [Act.put, List.setIfInBounds_toArray, List.set_cons_zero, List.set_cons_succ, i64_w, i32_w]
     rfl
    refine pure_ (i := 6) (N := some 18) (v := undef) (a' := ?_) #[true, true, true, true, true, true, true, false, false, false] rfl rfl (any_of HT_.out (by kernel_rfl)) (fun _ _ _ h => h) (Or.inr ⟨by rfl, rfl⟩) ?_ ?_
    rotate_left
    ·simp only [Act.put, List.setIfInBounds_toArray, List.set_cons_zero, List.set_cons_succ, i64_w, i32_w]
     rfl
    refine pure_ (i := 7) (N := some 19) (v := undef) (a' := ?_) #[true, true, true, true, true, true, true, true, false, false] rfl rfl (any_of HT_.out (by kernel_rfl)) (fun _ _ _ h => h) (Or.inr ⟨by rfl, rfl⟩) ?_ ?_
    rotate_left
    ·simp only [Act.put, List.setIfInBounds_toArray, List.set_cons_zero, List.set_cons_succ, i64_w, i32_w]
     rfl
    refine pure_ (i := 8) (N := some 20) (v := undef) (a' := ?_) #[true, true, true, true, true, true, true, true, true, false] rfl rfl (any_of HT_.out (by kernel_rfl)) (fun _ _ _ h => h) (Or.inr ⟨by rfl, rfl⟩) ?_ ?_
    rotate_left
    ·simp only [Act.put, List.setIfInBounds_toArray, List.set_cons_zero, List.set_cons_succ, i64_w, i32_w]
     rfl
    refine pure_ (i := 9) (N := some 21) (v := ?_) (a' := ?_) #[true, true, true, true, true, true, true, true, true, true] rfl rfl (any_of HT_.out (by kernel_rfl)) (fun _ _ _ h => h) (Or.inl ⟨by rfl, ?_⟩) ?_ ?_
    rotate_left
    ·intro w'
     go_simp
     with_reducible rfl
    rotate_left
    ·simp only [Act.put, List.setIfInBounds_toArray, List.set_cons_zero, List.set_cons_succ, i64_w, i32_w]
     rfl
    refine done_ (done_of HT_.out (by kernel_rfl)) ?_
    try go_wp2
    go_meet
    case rel => exact ⟨_, (true), (by first | rfl | (simp; done) | (simp [*]; done)), H', ⟨by first | omega | exact Nat.le_refl _⟩, ⟨nu (Kd.N_mono HO876.out (fun _ hk => ⟨hk.1.1, ⟨hk.1.2.1, hk.1.2.2⟩⟩))⟩, ⟨nu (Kd.N_mono HO880.out (fun _ hk => ⟨hk.1.1, ⟨hk.1.2.1, hk.1.2.2⟩⟩))⟩, ⟨bu BK877.out⟩, ⟨bu BK881.out⟩, ⟨z9_5⟩⟩
  case rest =>
   clear HC5
   obtain ⟨kq, x21_4, rfl, HA, HJ4, HO_878000, HO_882000, BK877, BK881, HB⟩ := hcut
   cases kq with
   | zero => exact absurd HA.out (by simp [laws_FnTurnPlain.j0])
   | succ kj4 =>
    have H := HA.out
    clear HA
    simp only [laws_FnTurnPlain.j0] at H
    by_cases c30 : x21_4 = true
    ·subst c30
     have H1 : ((spec_TurnPlain.f kj4 t874).bind fun t887 => ((laws_lpProg.f kj4 t878 t887).bind fun t890 => (some t890))) = some r := by rw [if_pos rfl] at H; exact H
     clear H
     have H := H1
     clear H1
     replace H := Option.bind_eq_some_iff.mp H
     obtain ⟨t887, A310, H⟩ := H
     replace H : ((laws_lpProg.f kj4 t878 t887).bind fun t890 => (some t890)) = some r := H
     have A31 := am_ A310
     clear A310
     replace H := Option.bind_eq_some_iff.mp H
     obtain ⟨t890, A320, H⟩ := H
     replace H : (some t890) = some r := H
     have A32 := am_ A320
     clear A320
     obtain rfl := Option.some.inj H
     try go_wp2
     have n0_ := am_ (Kd.N_drew HO_878000.out)
     have n1_ := am_ (Kd.N_drew HO_882000.out)
     have n2_ := am_ (blk_drew BK877.out)
     have n3_ := am_ (blk_drew BK881.out)
     have n4_ := am_ (below_drew1 HB.out)
     clear HO_878000 HO_882000 BK877 BK881 HB
     have HO_878000 := n0_
     have HO_882000 := n1_
     have BK877 := n2_
     have BK881 := n3_
     have HB := n4_
     clear n0_ n1_ n2_ n3_ n4_
     refine start_ (n := 5) (S := fun w' => w'.cell? ⟨gb881, 0, none⟩ = some (.slice Ao12 t878.length co12) ∧ w'.cell? ⟨gb877, 0, none⟩ = some (.slice Ao8 t874.length co8)) (ds := []) #[false, false, false, false, false] (by kernel_rfl) rfl rfl ⟨(blk_cell BK881.out 0).trans rfl, (blk_cell BK877.out 0).trans rfl⟩ (fun hHeld => ?_)
     generalize wc.drew = w33 at HO_878000 HO_882000 BK877 BK881 HB hHeld ⊢
     refine take_ (i := 0) (N := some 22) (v := ?_) (a' := ?_) #[true, false, false, false, false] rfl rfl (by kernel_rfl) (fun _ _ _ h => h) (Or.inl ⟨by rfl, ?_⟩) hHeld ?_ ?_
     rotate_left
     ·rintro w' ⟨s0, s1⟩
      go_simp
      with_reducible rfl
     rotate_left
     ·simp only [Act.put, List.setIfInBounds_toArray, List.set_cons_zero, List.set_cons_succ, i64_w, i32_w]
      rfl
     refine take_ (i := 1) (N := some 23) (v := ?_) (a' := ?_) #[true, true, false, false, false] rfl rfl (by kernel_rfl) (fun _ _ _ h => h) (Or.inl ⟨by rfl, ?_⟩) hHeld ?_ ?_
     rotate_left
     ·rintro w' ⟨s0, s1⟩
      go_simp
      with_reducible rfl
     rotate_left
     ·simp only [Act.put, List.setIfInBounds_toArray, List.set_cons_zero, List.set_cons_succ, i64_w, i32_w]
      rfl
     refine one_ (i := 2) (N := some 24) #[true, true, true, false, false] rfl rfl (by kernel_rfl) (by decide) (fun K hK => ?_)
     refine goes_ Try.func42 (by kernel_rfl) rfl #[.agg #[.slice Ao8 t874.length co8]] (by rfl) rfl rfl (by (try simp only [List.map_toArray, List.map_cons, List.map_nil]); first | done | rfl | (simp only [List.length_drop, List.length_take]; rfl)) ?_
     with_reducible refine (spec_TurnPlain.calls kj4 _ _ t874 t887 _ ?side1 ?side2 A31.out).mono ?_
     (case side1 => repeat (first | exact (Kd.N_reads' HO_878000.out).2.2 | (with_reducible refine Kd.C_alloc ?_ _) | (with_reducible refine Kd.C_drewN ?_ _) | (with_reducible refine Kd.C_drew ?_)))
     (case side2 => exact (Kd.N_reads' HO_878000.out).2.1)
     rintro e w34 ⟨v888, rfl, ho0, hb⟩
     refine ⟨_, rfl, ?_⟩
     have n0_ := am_ (Kd.N_elder' (nu HO_878000.out) z9_1 hb)
     have n1_ := am_ (Kd.N_elder' (nu HO_882000.out) z9_1 hb)
     have n2_ := am_ (Kd.N_lower (Kd.N_mono (ok' := fun k_ => some k_ ≠ (.slice Ao8 t874.length co8 : Value).ownBlock ∧ some k_ ≠ (.slice Ao12 t878.length co12 : Value).ownBlock ∧ k_ ≠ gb877 ∧ k_ ≠ gb881) (Kd.S_N (Kd.S_bound ho0)) (fun k_ hk_ => ⟨(Kd.fresh' (Kd.N_lt (nu HO_878000.out)) k_ hk_.2.1), (Kd.fresh' (Kd.N_lt (nu HO_882000.out)) k_ hk_.2.1), (Kd.freshB (bu BK877.out) k_ hk_.2.1), (Kd.freshB (bu BK881.out) k_ hk_.2.1)⟩)) (below_size z9_5))
     have n3_ := am_ (blk_below (bu BK877.out) hb)
     have n4_ := am_ (blk_below (bu BK881.out) hb)
     have n5_ := am_ (below_step z9_5 hb)
     clear HO_878000 HO_882000 BK877 BK881 HB
     have HO_878000 := n0_
     have HO_882000 := n1_
     have HO889 := n2_
     have BK877 := n3_
     have BK881 := n4_
     have HB := n5_
     clear n0_ n1_ n2_ n3_ n4_ n5_
     (try clear hb)
     (try clear hb2)
     (try clear hk)
     (try clear hi)
     (try clear ho0)
     obtain ⟨Ao35, co35, eo35⟩ := Kd.N_slice HO889.out
     (first | subst eo35 | (injection eo35 with f1_ f2_ f3_; have f4_ := f1_.symm; have f5_ := f3_.symm; clear f1_ f2_ f3_; subst f4_; subst f5_))
     refine hK.out _ _ ⟨(blk_cell BK881.out 0).trans rfl, (blk_cell BK877.out 0).trans rfl⟩ (fun hHeld => ?_)
     clear hK K
     refine norm_ (a' := ?_) ?_ ?_
     rotate_left
     ·show Act.put _ (some 24) _ = _
      simp only [Act.put, List.setIfInBounds_toArray, List.set_cons_zero, List.set_cons_succ, i64_w, i32_w]
      rfl
     refine one_ (i := 3) (N := some 25) #[true, true, true, true, false] rfl rfl (by kernel_rfl) (by decide) (fun K hK => ?_)
     refine goes_ Try.func30 (by kernel_rfl) rfl #[.agg #[.slice Ao12 t878.length co12], .agg #[.slice Ao35 t887.length co35]] (by rfl) rfl rfl (by (try simp only [List.map_toArray, List.map_cons, List.map_nil]); first | done | rfl | (simp only [List.length_drop, List.length_take]; rfl)) ?_
     with_reducible refine (laws_lpProg.calls kj4 _ _ t878 _ _ t887 t890 _ ?side1 ?side2 ?side3 ?side4 A32.out).mono ?_
     (case side1 => repeat (first | exact (Kd.N_reads' HO_882000.out).2.2 | (with_reducible refine Kd.C_alloc ?_ _) | (with_reducible refine Kd.C_drewN ?_ _) | (with_reducible refine Kd.C_drew ?_)))
     (case side2 => exact (Kd.N_reads' HO_882000.out).2.1)
     (case side3 => repeat (first | exact (Kd.N_reads' HO889.out).2.2 | (with_reducible refine Kd.C_alloc ?_ _) | (with_reducible refine Kd.C_drewN ?_ _) | (with_reducible refine Kd.C_drew ?_)))
     (case side4 => exact (Kd.N_reads' HO889.out).2.1)
     rintro e w36 ⟨rfl, hb⟩
     refine ⟨_, rfl, ?_⟩
     have n0_ := am_ (Kd.N_below (nu HO_878000.out) hb)
     have n1_ := am_ (Kd.N_below (nu HO_882000.out) hb)
     have n2_ := am_ (Kd.N_below (nu HO889.out) hb)
     have n3_ := am_ (blk_below (bu BK877.out) hb)
     have n4_ := am_ (blk_below (bu BK881.out) hb)
     have n5_ := am_ (below_step z9_5 hb)
     clear HO_878000 HO_882000 HO889 BK877 BK881 HB
     have HO_878000 := n0_
     have HO_882000 := n1_
     have HO889 := n2_
     have BK877 := n3_
     have BK881 := n4_
     have HB := n5_
     clear n0_ n1_ n2_ n3_ n4_ n5_
     (try clear hb)
     (try clear hb2)
     (try clear hk)
     (try clear hi)
     refine hK.out _ _ ⟨(blk_cell BK881.out 0).trans rfl, (blk_cell BK877.out 0).trans rfl⟩ (fun hHeld => ?_)
     clear hK K
     refine norm_ (a' := ?_) ?_ ?_
     rotate_left
     ·show Act.put _ (some 25) _ = _
      simp only [Act.put, List.setIfInBounds_toArray, List.set_cons_zero, List.set_cons_succ, i64_w, i32_w]
      rfl
     refine pure_ (i := 4) (N := some 2) (v := ?_) (a' := ?_) #[true, true, true, true, true] rfl rfl (by kernel_rfl) (fun _ _ _ h => h) (Or.inl ⟨by rfl, ?_⟩) ?_ ?_
     rotate_left
     ·intro w'
      go_simp
      with_reducible rfl
     rotate_left
     ·simp only [Act.put, List.setIfInBounds_toArray, List.set_cons_zero, List.set_cons_succ, i64_w, i32_w]
      rfl
     refine done_ (by kernel_rfl) ?_
     try go_wp2
     go_ret
     exact ⟨z9_2, z9_5⟩
    ·replace c30 := Bool.eq_false_iff.mpr c30
     subst c30
     have H1 : ((impl_TurnPlain.f kj4 t878).bind fun t891 => ((laws_lpProg.f kj4 t891 t878).bind fun t894 => (if t894 = true then ((impl_ProgOk.f kj4 t878).bind fun t895 => (if t895 = true then ((impl_ProgReads.f kj4 t878).bind fun t896 => ((impl_ProgReads.f kj4 t874).bind fun t897 => (some (t896 == t897)))) else (some false))) else (some false)))) = some r := by rw [if_neg (show ¬ (false = true) by decide)] at H; exact H
     clear H
     have H := H1
     clear H1
     replace H := Option.bind_eq_some_iff.mp H
     obtain ⟨t891, A370, H⟩ := H
     replace H : ((laws_lpProg.f kj4 t891 t878).bind fun t894 => (if t894 = true then ((impl_ProgOk.f kj4 t878).bind fun t895 => (if t895 = true then ((impl_ProgReads.f kj4 t878).bind fun t896 => ((impl_ProgReads.f kj4 t874).bind fun t897 => (some (t896 == t897)))) else (some false))) else (some false))) = some r := H
     have A37 := am_ A370
     clear A370
     replace H := Option.bind_eq_some_iff.mp H
     obtain ⟨t894, A380, H⟩ := H
     replace H : (if t894 = true then ((impl_ProgOk.f kj4 t878).bind fun t895 => (if t895 = true then ((impl_ProgReads.f kj4 t878).bind fun t896 => ((impl_ProgReads.f kj4 t874).bind fun t897 => (some (t896 == t897)))) else (some false))) else (some false)) = some r := H
     have A38 := am_ A380
     clear A380
     by_cases c39 : t894 = true
     ·subst c39
      have H1 : ((impl_ProgOk.f kj4 t878).bind fun t895 => (if t895 = true then ((impl_ProgReads.f kj4 t878).bind fun t896 => ((impl_ProgReads.f kj4 t874).bind fun t897 => (some (t896 == t897)))) else (some false))) = some r := by rw [if_pos rfl] at H; exact H
      clear H
      have H := H1
      clear H1
      replace H := Option.bind_eq_some_iff.mp H
      obtain ⟨t895, A400, H⟩ := H
      replace H : (if t895 = true then ((impl_ProgReads.f kj4 t878).bind fun t896 => ((impl_ProgReads.f kj4 t874).bind fun t897 => (some (t896 == t897)))) else (some false)) = some r := H
      have A40 := am_ A400
      clear A400
      by_cases c41 : t895 = true
      ·subst c41
       have H1 : ((impl_ProgReads.f kj4 t878).bind fun t896 => ((impl_ProgReads.f kj4 t874).bind fun t897 => (some (t896 == t897)))) = some r := by rw [if_pos rfl] at H; exact H
       clear H
       have H := H1
       clear H1
       replace H := Option.bind_eq_some_iff.mp H
       obtain ⟨t896, A420, H⟩ := H
       replace H : ((impl_ProgReads.f kj4 t874).bind fun t897 => (some (t896 == t897))) = some r := H
       have A42 := am_ A420
       clear A420
       replace H := Option.bind_eq_some_iff.mp H
       obtain ⟨t897, A430, H⟩ := H
       replace H : (some (t896 == t897)) = some r := H
       have A43 := am_ A430
       clear A430
       obtain rfl := Option.some.inj H
       try go_wp2
       have n0_ := am_ (Kd.N_drew HO_878000.out)
       have n1_ := am_ (Kd.N_drew HO_882000.out)
       have n2_ := am_ (blk_drew BK877.out)
       have n3_ := am_ (blk_drew BK881.out)
       have n4_ := am_ (below_drew1 HB.out)
       clear HO_878000 HO_882000 BK877 BK881 HB
       have HO_878000 := n0_
       have HO_882000 := n1_
       have BK877 := n2_
       have BK881 := n3_
       have HB := n4_
       clear n0_ n1_ n2_ n3_ n4_
       refine start_ (n := 16) (S := fun w' => w'.cell? ⟨gb881, 0, none⟩ = some (.slice Ao12 t878.length co12) ∧ w'.cell? ⟨gb877, 0, none⟩ = some (.slice Ao8 t874.length co8)) (ds := []) #[false, false, false, false, false, false, false, false, false, false, false, false, false, false, false, false] (by kernel_rfl) rfl rfl ⟨(blk_cell BK881.out 0).trans rfl, (blk_cell BK877.out 0).trans rfl⟩ (fun hHeld => ?_); refine with_tabW laws_FnTurnPlain.tab7 laws_FnTurnPlain.bits7 (fun HT_ HW_ => ?_)
       generalize wc.drew = w44 at HO_878000 HO_882000 BK877 BK881 HB hHeld ⊢
       refine take_ (i := 0) (N := some 26) (v := ?_) (a' := ?_) #[true, false, false, false, false, false, false, false, false, false, false, false, false, false, false, false] rfl rfl (take_ofW HT_.out HW_.out (by kernel_rfl)) (fun _ _ _ h => h) (Or.inl ⟨by rfl, ?_⟩) hHeld ?_ ?_
       rotate_left
       ·rintro w' ⟨s0, s1⟩
        go_simp
        with_reducible rfl
       rotate_left
       ·simp only [Act.put, List.setIfInBounds_toArray, List.set_cons_zero, List.set_cons_succ, i64_w, i32_w]
        rfl
       refine take_ (i := 2) (N := some 28) (v := ?_) (a' := ?_) #[true, false, true, false, false, false, false, false, false, false, false, false, false, false, false, false] rfl rfl (take_ofW HT_.out HW_.out (by kernel_rfl)) (fun _ _ _ h => h) (Or.inl ⟨by rfl, ?_⟩) hHeld ?_ ?_
       rotate_left
       ·rintro w' ⟨s0, s1⟩
        go_simp
        with_reducible rfl
       rotate_left
       ·simp only [Act.put, List.setIfInBounds_toArray, List.set_cons_zero, List.set_cons_succ, i64_w, i32_w]
        rfl
       refine one_ (i := 1) (N := some 27) #[true, true, true, false, false, false, false, false, false, false, false, false, false, false, false, false] rfl rfl (one_of HT_.out (by kernel_rfl)) (by decide) (fun K hK => ?_)
       refine goes_ Try.func35 (by kernel_rfl) rfl #[.agg #[.slice Ao12 t878.length co12]] (by rfl) rfl rfl (by (try simp only [List.map_toArray, List.map_cons, List.map_nil]); first | done | rfl | (simp only [List.length_drop, List.length_take]; rfl)) ?_
       with_reducible refine (impl_TurnPlain.calls kj4 _ _ t878 t891 _ ?side1 ?side2 A37.out).mono ?_
       (case side1 => repeat (first | exact (Kd.N_reads' HO_882000.out).2.2 | (with_reducible refine Kd.C_alloc ?_ _) | (with_reducible refine Kd.C_drewN ?_ _) | (with_reducible refine Kd.C_drew ?_)))
       (case side2 => exact (Kd.N_reads' HO_882000.out).2.1)
       rintro e w45 ⟨v892, rfl, ho0, hb⟩
       refine ⟨_, rfl, ?_⟩
       have n0_ := am_ (Kd.N_elder' (nu HO_878000.out) z9_1 hb)
       have n1_ := am_ (Kd.N_elder' (nu HO_882000.out) z9_1 hb)
       have n2_ := am_ (Kd.N_lower (Kd.N_mono (ok' := fun k_ => some k_ ≠ (.slice Ao8 t874.length co8 : Value).ownBlock ∧ some k_ ≠ (.slice Ao12 t878.length co12 : Value).ownBlock ∧ k_ ≠ gb877 ∧ k_ ≠ gb881) (Kd.S_N (Kd.S_bound ho0)) (fun k_ hk_ => ⟨(Kd.fresh' (Kd.N_lt (nu HO_878000.out)) k_ hk_.2.1), (Kd.fresh' (Kd.N_lt (nu HO_882000.out)) k_ hk_.2.1), (Kd.freshB (bu BK877.out) k_ hk_.2.1), (Kd.freshB (bu BK881.out) k_ hk_.2.1)⟩)) (below_size z9_5))
       have n3_ := am_ (blk_below (bu BK877.out) hb)
       have n4_ := am_ (blk_below (bu BK881.out) hb)
       have n5_ := am_ (below_step z9_5 hb)
       clear HO_878000 HO_882000 BK877 BK881 HB
       have HO_878000 := n0_
       have HO_882000 := n1_
       have HO893 := n2_
       have BK877 := n3_
       have BK881 := n4_
       have HB := n5_
       clear n0_ n1_ n2_ n3_ n4_ n5_
       (try clear hb)
       (try clear hb2)
       (try clear hk)
       (try clear hi)
       (try clear ho0)
       obtain ⟨Ao46, co46, eo46⟩ := Kd.N_slice HO893.out
       (first | subst eo46 | (injection eo46 with f1_ f2_ f3_; have f4_ := f1_.symm; have f5_ := f3_.symm; clear f1_ f2_ f3_; subst f4_; subst f5_))
       refine hK.out _ _ ⟨(blk_cell BK881.out 0).trans rfl, (blk_cell BK877.out 0).trans rfl⟩ (fun hHeld => ?_)
       clear hK K
       refine norm_ (a' := ?_) ?_ ?_
       rotate_left
       ·show Act.put _ (some 27) _ = _
        simp only [Act.put, List.setIfInBounds_toArray, List.set_cons_zero, List.set_cons_succ, i64_w, i32_w]
        rfl
       refine one_ (i := 3) (N := some 29) #[true, true, true, true, false, false, false, false, false, false, false, false, false, false, false, false] rfl rfl (one_of HT_.out (by kernel_rfl)) (by decide) (fun K hK => ?_)
       refine goes_ Try.func30 (by kernel_rfl) rfl #[.agg #[.slice Ao46 t891.length co46], .agg #[.slice Ao12 t878.length co12]] (by rfl) rfl rfl (by (try simp only [List.map_toArray, List.map_cons, List.map_nil]); first | done | rfl | (simp only [List.length_drop, List.length_take]; rfl)) ?_
       with_reducible refine (laws_lpProg.calls kj4 _ _ t891 _ _ t878 true _ ?side1 ?side2 ?side3 ?side4 A38.out).mono ?_
       (case side1 => repeat (first | exact (Kd.N_reads' HO893.out).2.2 | (with_reducible refine Kd.C_alloc ?_ _) | (with_reducible refine Kd.C_drewN ?_ _) | (with_reducible refine Kd.C_drew ?_)))
       (case side2 => exact (Kd.N_reads' HO893.out).2.1)
       (case side3 => repeat (first | exact (Kd.N_reads' HO_882000.out).2.2 | (with_reducible refine Kd.C_alloc ?_ _) | (with_reducible refine Kd.C_drewN ?_ _) | (with_reducible refine Kd.C_drew ?_)))
       (case side4 => exact (Kd.N_reads' HO_882000.out).2.1)
       rintro e w47 ⟨rfl, hb⟩
       refine ⟨_, rfl, ?_⟩
       have n0_ := am_ (Kd.N_below (nu HO_878000.out) hb)
       have n1_ := am_ (Kd.N_below (nu HO_882000.out) hb)
       have n2_ := am_ (Kd.N_below (nu HO893.out) hb)
       have n3_ := am_ (blk_below (bu BK877.out) hb)
       have n4_ := am_ (blk_below (bu BK881.out) hb)
       have n5_ := am_ (below_step z9_5 hb)
       clear HO_878000 HO_882000 HO893 BK877 BK881 HB
       have HO_878000 := n0_
       have HO_882000 := n1_
       have HO893 := n2_
       have BK877 := n3_
       have BK881 := n4_
       have HB := n5_
       clear n0_ n1_ n2_ n3_ n4_ n5_
       (try clear hb)
       (try clear hb2)
       (try clear hk)
       (try clear hi)
       refine hK.out _ _ ⟨(blk_cell BK881.out 0).trans rfl, (blk_cell BK877.out 0).trans rfl⟩ (fun hHeld => ?_)
       clear hK K
       refine norm_ (a' := ?_) ?_ ?_
       rotate_left
       ·show Act.put _ (some 29) _ = _
        simp only [Act.put, List.setIfInBounds_toArray, List.set_cons_zero, List.set_cons_succ, i64_w, i32_w]
        rfl
       refine pure_ (i := 4) (N := some 30) (v := ?_) (a' := ?_) #[true, true, true, true, true, false, false, false, false, false, false, false, false, false, false, false] rfl rfl (any_of HT_.out (by kernel_rfl)) (fun _ _ _ h => h) (Or.inl ⟨by rfl, ?_⟩) ?_ ?_
       rotate_left
       ·intro w'
        go_simp
        with_reducible rfl
       rotate_left
       ·simp only [Act.put, List.setIfInBounds_toArray, List.set_cons_zero, List.set_cons_succ, i64_w, i32_w]
        rfl
       refine take_ (i := 5) (N := some 31) (v := ?_) (a' := ?_) #[true, true, true, true, true, true, false, false, false, false, false, false, false, false, false, false] rfl rfl (take_ofW HT_.out HW_.out (by kernel_rfl)) (fun _ _ _ h => h) (Or.inl ⟨by rfl, ?_⟩) hHeld ?_ ?_
       rotate_left
       ·rintro w' ⟨s0, s1⟩
        go_simp
        with_reducible rfl
       rotate_left
       ·simp only [Act.put, List.setIfInBounds_toArray, List.set_cons_zero, List.set_cons_succ, i64_w, i32_w]
        rfl
       refine one_ (i := 6) (N := some 32) #[true, true, true, true, true, true, true, false, false, false, false, false, false, false, false, false] rfl rfl (one_of HT_.out (by kernel_rfl)) (by decide) (fun K hK => ?_)
       refine goes_ Try.func31 (by kernel_rfl) rfl #[.agg #[.slice Ao12 t878.length co12]] (by rfl) rfl rfl (by (try simp only [List.map_toArray, List.map_cons, List.map_nil]); first | done | rfl | (simp only [List.length_drop, List.length_take]; rfl)) ?_
       with_reducible refine (impl_ProgOk.calls kj4 _ _ t878 true _ ?side1 ?side2 A40.out).mono ?_
       (case side1 => repeat (first | exact (Kd.N_reads' HO_882000.out).2.2 | (with_reducible refine Kd.C_alloc ?_ _) | (with_reducible refine Kd.C_drewN ?_ _) | (with_reducible refine Kd.C_drew ?_)))
       (case side2 => exact (Kd.N_reads' HO_882000.out).2.1)
       rintro e w48 ⟨rfl, hb⟩
       refine ⟨_, rfl, ?_⟩
       have n0_ := am_ (Kd.N_below (nu HO_878000.out) hb)
       have n1_ := am_ (Kd.N_below (nu HO_882000.out) hb)
       have n2_ := am_ (Kd.N_below (nu HO893.out) hb)
       have n3_ := am_ (blk_below (bu BK877.out) hb)
       have n4_ := am_ (blk_below (bu BK881.out) hb)
       have n5_ := am_ (below_step z9_5 hb)
       clear HO_878000 HO_882000 HO893 BK877 BK881 HB
       have HO_878000 := n0_
       have HO_882000 := n1_
       have HO893 := n2_
       have BK877 := n3_
       have BK881 := n4_
       have HB := n5_
       clear n0_ n1_ n2_ n3_ n4_ n5_
       (try clear hb)
       (try clear hb2)
       (try clear hk)
       (try clear hi)
       refine hK.out _ _ ⟨(blk_cell BK881.out 0).trans rfl, (blk_cell BK877.out 0).trans rfl⟩ (fun hHeld => ?_)
       clear hK K
       refine norm_ (a' := ?_) ?_ ?_
       rotate_left
       ·show Act.put _ (some 32) _ = _
        simp only [Act.put, List.setIfInBounds_toArray, List.set_cons_zero, List.set_cons_succ, i64_w, i32_w]
        rfl
       refine pure_ (i := 7) (N := some 33) (v := ?_) (a' := ?_) #[true, true, true, true, true, true, true, true, false, false, false, false, false, false, false, false] rfl rfl (any_of HT_.out (by kernel_rfl)) (fun _ _ _ h => h) (Or.inl ⟨by rfl, ?_⟩) ?_ ?_
       rotate_left
       ·intro w'
        go_simp
        with_reducible rfl
       rotate_left
       ·simp only [Act.put, List.setIfInBounds_toArray, List.set_cons_zero, List.set_cons_succ, i64_w, i32_w]
        rfl
       refine pure_ (i := 8) (N := some 34) (v := ?_) (a' := ?_) #[true, true, true, true, true, true, true, true, true, false, false, false, false, false, false, false] rfl rfl (any_of HT_.out (by kernel_rfl)) (fun _ _ _ h => h) (Or.inl ⟨by rfl, ?_⟩) ?_ ?_
       rotate_left
       ·intro w'
        go_simp
        with_reducible rfl
       rotate_left
       ·simp only [Act.put, List.setIfInBounds_toArray, List.set_cons_zero, List.set_cons_succ, i64_w, i32_w]
        rfl
       refine take_ (i := 9) (N := some 35) (v := ?_) (a' := ?_) #[true, true, true, true, true, true, true, true, true, true, false, false, false, false, false, false] rfl rfl (take_ofW HT_.out HW_.out (by kernel_rfl)) (fun _ _ _ h => h) (Or.inl ⟨by rfl, ?_⟩) hHeld ?_ ?_
       rotate_left
       ·rintro w' ⟨s0, s1⟩
        go_simp
        with_reducible rfl
       rotate_left
       ·simp only [Act.put, List.setIfInBounds_toArray, List.set_cons_zero, List.set_cons_succ, i64_w, i32_w]
        rfl
       refine take_ (i := 11) (N := some 37) (v := ?_) (a' := ?_) #[true, true, true, true, true, true, true, true, true, true, false, true, false, false, false, false] rfl rfl (take_ofW HT_.out HW_.out (by kernel_rfl)) (fun _ _ _ h => h) (Or.inl ⟨by rfl, ?_⟩) hHeld ?_ ?_
       rotate_left
       ·rintro w' ⟨s0, s1⟩
        go_simp
        with_reducible rfl
       rotate_left
       ·simp only [Act.put, List.setIfInBounds_toArray, List.set_cons_zero, List.set_cons_succ, i64_w, i32_w]
        rfl
       refine one_ (i := 10) (N := some 36) #[true, true, true, true, true, true, true, true, true, true, true, true, false, false, false, false] rfl rfl (one_of HT_.out (by kernel_rfl)) (by decide) (fun K hK => ?_)
       refine goes_ Try.func40 (by kernel_rfl) rfl #[.agg #[.slice Ao12 t878.length co12]] (by rfl) rfl rfl (by (try simp only [List.map_toArray, List.map_cons, List.map_nil]); first | done | rfl | (simp only [List.length_drop, List.length_take]; rfl)) ?_
       with_reducible refine (impl_ProgReads.calls kj4 _ _ t878 t896 _ ?side1 ?side2 A42.out).mono ?_
       (case side1 => repeat (first | exact (Kd.N_reads' HO_882000.out).2.2 | (with_reducible refine Kd.C_alloc ?_ _) | (with_reducible refine Kd.C_drewN ?_ _) | (with_reducible refine Kd.C_drew ?_)))
       (case side2 => exact (Kd.N_reads' HO_882000.out).2.1)
       rintro e w49 ⟨rfl, hb⟩
       refine ⟨_, rfl, ?_⟩
       have n0_ := am_ (Kd.N_below (nu HO_878000.out) hb)
       have n1_ := am_ (Kd.N_below (nu HO_882000.out) hb)
       have n2_ := am_ (Kd.N_below (nu HO893.out) hb)
       have n3_ := am_ (blk_below (bu BK877.out) hb)
       have n4_ := am_ (blk_below (bu BK881.out) hb)
       have n5_ := am_ (below_step z9_5 hb)
       clear HO_878000 HO_882000 HO893 BK877 BK881 HB
       have HO_878000 := n0_
       have HO_882000 := n1_
       have HO893 := n2_
       have BK877 := n3_
       have BK881 := n4_
       have HB := n5_
       clear n0_ n1_ n2_ n3_ n4_ n5_
       (try clear hb)
       (try clear hb2)
       (try clear hk)
       (try clear hi)
       refine hK.out _ _ ⟨(blk_cell BK881.out 0).trans rfl, (blk_cell BK877.out 0).trans rfl⟩ (fun hHeld => ?_)
       clear hK K
       refine norm_ (a' := ?_) ?_ ?_
       rotate_left
       ·show Act.put _ (some 36) _ = _
        simp only [Act.put, List.setIfInBounds_toArray, List.set_cons_zero, List.set_cons_succ, i64_w, i32_w]
        rfl
       refine one_ (i := 12) (N := some 38) #[true, true, true, true, true, true, true, true, true, true, true, true, true, false, false, false] rfl rfl (one_of HT_.out (by kernel_rfl)) (by decide) (fun K hK => ?_)
       refine goes_ Try.func40 (by kernel_rfl) rfl #[.agg #[.slice Ao8 t874.length co8]] (by rfl) rfl rfl (by (try simp only [List.map_toArray, List.map_cons, List.map_nil]); first | done | rfl | (simp only [List.length_drop, List.length_take]; rfl)) ?_
       with_reducible refine (impl_ProgReads.calls kj4 _ _ t874 t897 _ ?side1 ?side2 A43.out).mono ?_
       (case side1 => repeat (first | exact (Kd.N_reads' HO_878000.out).2.2 | (with_reducible refine Kd.C_alloc ?_ _) | (with_reducible refine Kd.C_drewN ?_ _) | (with_reducible refine Kd.C_drew ?_)))
       (case side2 => exact (Kd.N_reads' HO_878000.out).2.1)
       rintro e w50 ⟨rfl, hb⟩
       refine ⟨_, rfl, ?_⟩
       have n0_ := am_ (Kd.N_below (nu HO_878000.out) hb)
       have n1_ := am_ (Kd.N_below (nu HO_882000.out) hb)
       have n2_ := am_ (Kd.N_below (nu HO893.out) hb)
       have n3_ := am_ (blk_below (bu BK877.out) hb)
       have n4_ := am_ (blk_below (bu BK881.out) hb)
       have n5_ := am_ (below_step z9_5 hb)
       clear HO_878000 HO_882000 HO893 BK877 BK881 HB
       have HO_878000 := n0_
       have HO_882000 := n1_
       have HO893 := n2_
       have BK877 := n3_
       have BK881 := n4_
       have HB := n5_
       clear n0_ n1_ n2_ n3_ n4_ n5_
       (try clear hb)
       (try clear hb2)
       (try clear hk)
       (try clear hi)
       refine hK.out _ _ ⟨(blk_cell BK881.out 0).trans rfl, (blk_cell BK877.out 0).trans rfl⟩ (fun hHeld => ?_)
       clear hK K
       refine norm_ (a' := ?_) ?_ ?_
       rotate_left
       ·show Act.put _ (some 38) _ = _
        simp only [Act.put, List.setIfInBounds_toArray, List.set_cons_zero, List.set_cons_succ, i64_w, i32_w]
        rfl
       refine pure_ (i := 13) (N := some 39) (v := ?_) (a' := ?_) #[true, true, true, true, true, true, true, true, true, true, true, true, true, true, false, false] rfl rfl (any_of HT_.out (by kernel_rfl)) (fun _ _ _ h => h) (Or.inl ⟨by rfl, ?_⟩) ?_ ?_
       rotate_left
       ·intro w'
        go_simp
        with_reducible rfl
       rotate_left
       ·simp only [Act.put, List.setIfInBounds_toArray, List.set_cons_zero, List.set_cons_succ, i64_w, i32_w]
        rfl
       refine pure_ (i := 14) (N := some 40) (v := ?_) (a' := ?_) #[true, true, true, true, true, true, true, true, true, true, true, true, true, true, true, false] rfl rfl (any_of HT_.out (by kernel_rfl)) (fun _ _ _ h => h) (Or.inl ⟨by rfl, ?_⟩) ?_ ?_
       rotate_left
       ·intro w'
        go_simp
        with_reducible rfl
       rotate_left
       ·simp only [Act.put, List.setIfInBounds_toArray, List.set_cons_zero, List.set_cons_succ, i64_w, i32_w]
        rfl
       refine pure_ (i := 15) (N := some 2) (v := ?_) (a' := ?_) #[true, true, true, true, true, true, true, true, true, true, true, true, true, true, true, true] rfl rfl (any_of HT_.out (by kernel_rfl)) (fun _ _ _ h => h) (Or.inl ⟨by rfl, ?_⟩) ?_ ?_
       rotate_left
       ·intro w'
        go_simp
        with_reducible rfl
       rotate_left
       ·simp only [Act.put, List.setIfInBounds_toArray, List.set_cons_zero, List.set_cons_succ, i64_w, i32_w]
        rfl
       refine done_ (done_of HT_.out (by kernel_rfl)) ?_
       try go_wp2
       go_ret
       exact ⟨z9_2, z9_5⟩
      ·replace c41 := Bool.eq_false_iff.mpr c41
       subst c41
       have H1 : (some false) = some r := by rw [if_neg (show ¬ (false = true) by decide)] at H; exact H
       clear H
       have H := H1
       clear H1
       obtain rfl := Option.some.inj H
       try go_wp2
       have n0_ := am_ (Kd.N_drew HO_878000.out)
       have n1_ := am_ (Kd.N_drew HO_882000.out)
       have n2_ := am_ (blk_drew BK877.out)
       have n3_ := am_ (blk_drew BK881.out)
       have n4_ := am_ (below_drew1 HB.out)
       clear HO_878000 HO_882000 BK877 BK881 HB
       have HO_878000 := n0_
       have HO_882000 := n1_
       have BK877 := n2_
       have BK881 := n3_
       have HB := n4_
       clear n0_ n1_ n2_ n3_ n4_
       refine start_ (n := 16) (S := fun w' => w'.cell? ⟨gb881, 0, none⟩ = some (.slice Ao12 t878.length co12)) (ds := []) #[false, false, false, false, false, false, false, false, false, false, false, false, false, false, false, false] (by kernel_rfl) rfl rfl ((blk_cell BK881.out 0).trans rfl) (fun hHeld => ?_); refine with_tabW laws_FnTurnPlain.tab7 laws_FnTurnPlain.bits7 (fun HT_ HW_ => ?_)
       generalize wc.drew = w51 at HO_878000 HO_882000 BK877 BK881 HB hHeld ⊢
       refine take_ (i := 0) (N := some 26) (v := ?_) (a' := ?_) #[true, false, false, false, false, false, false, false, false, false, false, false, false, false, false, false] rfl rfl (take_ofW HT_.out HW_.out (by kernel_rfl)) (fun _ _ _ h => h) (Or.inl ⟨by rfl, ?_⟩) hHeld ?_ ?_
       rotate_left
       ·intro w' s0
        go_simp
        with_reducible rfl
       rotate_left
       ·simp only [Act.put, List.setIfInBounds_toArray, List.set_cons_zero, List.set_cons_succ, i64_w, i32_w]
        rfl
       refine take_ (i := 2) (N := some 28) (v := ?_) (a' := ?_) #[true, false, true, false, false, false, false, false, false, false, false, false, false, false, false, false] rfl rfl (take_ofW HT_.out HW_.out (by kernel_rfl)) (fun _ _ _ h => h) (Or.inl ⟨by rfl, ?_⟩) hHeld ?_ ?_
       rotate_left
       ·intro w' s0
        go_simp
        with_reducible rfl
       rotate_left
       ·simp only [Act.put, List.setIfInBounds_toArray, List.set_cons_zero, List.set_cons_succ, i64_w, i32_w]
        rfl
       refine one_ (i := 1) (N := some 27) #[true, true, true, false, false, false, false, false, false, false, false, false, false, false, false, false] rfl rfl (one_of HT_.out (by kernel_rfl)) (by decide) (fun K hK => ?_)
       refine goes_ Try.func35 (by kernel_rfl) rfl #[.agg #[.slice Ao12 t878.length co12]] (by rfl) rfl rfl (by (try simp only [List.map_toArray, List.map_cons, List.map_nil]); first | done | rfl | (simp only [List.length_drop, List.length_take]; rfl)) ?_
       with_reducible refine (impl_TurnPlain.calls kj4 _ _ t878 t891 _ ?side1 ?side2 A37.out).mono ?_
       (case side1 => repeat (first | exact (Kd.N_reads' HO_882000.out).2.2 | (with_reducible refine Kd.C_alloc ?_ _) | (with_reducible refine Kd.C_drewN ?_ _) | (with_reducible refine Kd.C_drew ?_)))
       (case side2 => exact (Kd.N_reads' HO_882000.out).2.1)
       rintro e w52 ⟨v892, rfl, ho0, hb⟩
       refine ⟨_, rfl, ?_⟩
       have n0_ := am_ (Kd.N_elder' (nu HO_878000.out) z9_1 hb)
       have n1_ := am_ (Kd.N_elder' (nu HO_882000.out) z9_1 hb)
       have n2_ := am_ (Kd.N_lower (Kd.N_mono (ok' := fun k_ => some k_ ≠ (.slice Ao8 t874.length co8 : Value).ownBlock ∧ some k_ ≠ (.slice Ao12 t878.length co12 : Value).ownBlock ∧ k_ ≠ gb877 ∧ k_ ≠ gb881) (Kd.S_N (Kd.S_bound ho0)) (fun k_ hk_ => ⟨(Kd.fresh' (Kd.N_lt (nu HO_878000.out)) k_ hk_.2.1), (Kd.fresh' (Kd.N_lt (nu HO_882000.out)) k_ hk_.2.1), (Kd.freshB (bu BK877.out) k_ hk_.2.1), (Kd.freshB (bu BK881.out) k_ hk_.2.1)⟩)) (below_size z9_5))
       have n3_ := am_ (blk_below (bu BK877.out) hb)
       have n4_ := am_ (blk_below (bu BK881.out) hb)
       have n5_ := am_ (below_step z9_5 hb)
       clear HO_878000 HO_882000 BK877 BK881 HB
       have HO_878000 := n0_
       have HO_882000 := n1_
       have HO893 := n2_
       have BK877 := n3_
       have BK881 := n4_
       have HB := n5_
       clear n0_ n1_ n2_ n3_ n4_ n5_
       (try clear hb)
       (try clear hb2)
       (try clear hk)
       (try clear hi)
       (try clear ho0)
       obtain ⟨Ao53, co53, eo53⟩ := Kd.N_slice HO893.out
       (first | subst eo53 | (injection eo53 with f1_ f2_ f3_; have f4_ := f1_.symm; have f5_ := f3_.symm; clear f1_ f2_ f3_; subst f4_; subst f5_))
       refine hK.out _ _ ((blk_cell BK881.out 0).trans rfl) (fun hHeld => ?_)
       clear hK K
       refine norm_ (a' := ?_) ?_ ?_
       rotate_left
       ·show Act.put _ (some 27) _ = _
        simp only [Act.put, List.setIfInBounds_toArray, List.set_cons_zero, List.set_cons_succ, i64_w, i32_w]
        rfl
       refine one_ (i := 3) (N := some 29) #[true, true, true, true, false, false, false, false, false, false, false, false, false, false, false, false] rfl rfl (one_of HT_.out (by kernel_rfl)) (by decide) (fun K hK => ?_)
       refine goes_ Try.func30 (by kernel_rfl) rfl #[.agg #[.slice Ao53 t891.length co53], .agg #[.slice Ao12 t878.length co12]] (by rfl) rfl rfl (by (try simp only [List.map_toArray, List.map_cons, List.map_nil]); first | done | rfl | (simp only [List.length_drop, List.length_take]; rfl)) ?_
       with_reducible refine (laws_lpProg.calls kj4 _ _ t891 _ _ t878 true _ ?side1 ?side2 ?side3 ?side4 A38.out).mono ?_
       (case side1 => repeat (first | exact (Kd.N_reads' HO893.out).2.2 | (with_reducible refine Kd.C_alloc ?_ _) | (with_reducible refine Kd.C_drewN ?_ _) | (with_reducible refine Kd.C_drew ?_)))
       (case side2 => exact (Kd.N_reads' HO893.out).2.1)
       (case side3 => repeat (first | exact (Kd.N_reads' HO_882000.out).2.2 | (with_reducible refine Kd.C_alloc ?_ _) | (with_reducible refine Kd.C_drewN ?_ _) | (with_reducible refine Kd.C_drew ?_)))
       (case side4 => exact (Kd.N_reads' HO_882000.out).2.1)
       rintro e w54 ⟨rfl, hb⟩
       refine ⟨_, rfl, ?_⟩
       have n0_ := am_ (Kd.N_below (nu HO_878000.out) hb)
       have n1_ := am_ (Kd.N_below (nu HO_882000.out) hb)
       have n2_ := am_ (Kd.N_below (nu HO893.out) hb)
       have n3_ := am_ (blk_below (bu BK877.out) hb)
       have n4_ := am_ (blk_below (bu BK881.out) hb)
       have n5_ := am_ (below_step z9_5 hb)
       clear HO_878000 HO_882000 HO893 BK877 BK881 HB
       have HO_878000 := n0_
       have HO_882000 := n1_
       have HO893 := n2_
       have BK877 := n3_
       have BK881 := n4_
       have HB := n5_
       clear n0_ n1_ n2_ n3_ n4_ n5_
       (try clear hb)
       (try clear hb2)
       (try clear hk)
       (try clear hi)
       refine hK.out _ _ ((blk_cell BK881.out 0).trans rfl) (fun hHeld => ?_)
       clear hK K
       refine norm_ (a' := ?_) ?_ ?_
       rotate_left
       ·show Act.put _ (some 29) _ = _
        simp only [Act.put, List.setIfInBounds_toArray, List.set_cons_zero, List.set_cons_succ, i64_w, i32_w]
        rfl
       refine pure_ (i := 4) (N := some 30) (v := ?_) (a' := ?_) #[true, true, true, true, true, false, false, false, false, false, false, false, false, false, false, false] rfl rfl (any_of HT_.out (by kernel_rfl)) (fun _ _ _ h => h) (Or.inl ⟨by rfl, ?_⟩) ?_ ?_
       rotate_left
       ·intro w'
        go_simp
        with_reducible rfl
       rotate_left
       ·simp only [Act.put, List.setIfInBounds_toArray, List.set_cons_zero, List.set_cons_succ, i64_w, i32_w]
        rfl
       refine take_ (i := 5) (N := some 31) (v := ?_) (a' := ?_) #[true, true, true, true, true, true, false, false, false, false, false, false, false, false, false, false] rfl rfl (take_ofW HT_.out HW_.out (by kernel_rfl)) (fun _ _ _ h => h) (Or.inl ⟨by rfl, ?_⟩) hHeld ?_ ?_
       rotate_left
       ·intro w' s0
        go_simp
        with_reducible rfl
       rotate_left
       ·simp only [Act.put, List.setIfInBounds_toArray, List.set_cons_zero, List.set_cons_succ, i64_w, i32_w]
        rfl
       refine one_ (i := 6) (N := some 32) #[true, true, true, true, true, true, true, false, false, false, false, false, false, false, false, false] rfl rfl (one_of HT_.out (by kernel_rfl)) (by decide) (fun K hK => ?_)
       refine goes_ Try.func31 (by kernel_rfl) rfl #[.agg #[.slice Ao12 t878.length co12]] (by rfl) rfl rfl (by (try simp only [List.map_toArray, List.map_cons, List.map_nil]); first | done | rfl | (simp only [List.length_drop, List.length_take]; rfl)) ?_
       with_reducible refine (impl_ProgOk.calls kj4 _ _ t878 false _ ?side1 ?side2 A40.out).mono ?_
       (case side1 => repeat (first | exact (Kd.N_reads' HO_882000.out).2.2 | (with_reducible refine Kd.C_alloc ?_ _) | (with_reducible refine Kd.C_drewN ?_ _) | (with_reducible refine Kd.C_drew ?_)))
       (case side2 => exact (Kd.N_reads' HO_882000.out).2.1)
       rintro e w55 ⟨rfl, hb⟩
       refine ⟨_, rfl, ?_⟩
       have n0_ := am_ (Kd.N_below (nu HO_878000.out) hb)
       have n1_ := am_ (Kd.N_below (nu HO_882000.out) hb)
       have n2_ := am_ (Kd.N_below (nu HO893.out) hb)
       have n3_ := am_ (blk_below (bu BK877.out) hb)
       have n4_ := am_ (blk_below (bu BK881.out) hb)
       have n5_ := am_ (below_step z9_5 hb)
       clear HO_878000 HO_882000 HO893 BK877 BK881 HB
       have HO_878000 := n0_
       have HO_882000 := n1_
       have HO893 := n2_
       have BK877 := n3_
       have BK881 := n4_
       have HB := n5_
       clear n0_ n1_ n2_ n3_ n4_ n5_
       (try clear hb)
       (try clear hb2)
       (try clear hk)
       (try clear hi)
       refine hK.out _ _ ((blk_cell BK881.out 0).trans rfl) (fun hHeld => ?_)
       clear hK K
       refine norm_ (a' := ?_) ?_ ?_
       rotate_left
       ·show Act.put _ (some 32) _ = _
        simp only [Act.put, List.setIfInBounds_toArray, List.set_cons_zero, List.set_cons_succ, i64_w, i32_w]
        rfl
       refine pure_ (i := 7) (N := some 33) (v := ?_) (a' := ?_) #[true, true, true, true, true, true, true, true, false, false, false, false, false, false, false, false] rfl rfl (any_of HT_.out (by kernel_rfl)) (fun _ _ _ h => h) (Or.inl ⟨by rfl, ?_⟩) ?_ ?_
       rotate_left
       ·intro w'
        go_simp
        with_reducible rfl
       rotate_left
       ·simp only [Act.put, List.setIfInBounds_toArray, List.set_cons_zero, List.set_cons_succ, i64_w, i32_w]
        rfl
       refine pure_ (i := 8) (N := some 34) (v := ?_) (a' := ?_) #[true, true, true, true, true, true, true, true, true, false, false, false, false, false, false, false] rfl rfl (any_of HT_.out (by kernel_rfl)) (fun _ _ _ h => h) (Or.inl ⟨by rfl, ?_⟩) ?_ ?_
       rotate_left
       ·intro w'
        go_simp
        with_reducible rfl
       rotate_left
       ·simp only [Act.put, List.setIfInBounds_toArray, List.set_cons_zero, List.set_cons_succ, i64_w, i32_w]
        rfl
       refine pure_ (i := 9) (N := some 35) (v := undef) (a' := ?_) #[true, true, true, true, true, true, true, true, true, true, false, false, false, false, false, false] rfl rfl (any_of HT_.out (by kernel_rfl)) (fun _ _ _ h => h) (Or.inr ⟨by rfl, rfl⟩) ?_ ?_
       rotate_left
       ·simp only [Act.put, List.setIfInBounds_toArray, List.set_cons_zero, List.set_cons_succ, i64_w, i32_w]
        rfl
       refine pure_ (i := 10) (N := some 36) (v := undef) (a' := ?_) #[true, true, true, true, true, true, true, true, true, true, true, false, false, false, false, false] rfl rfl (any_of HT_.out (by kernel_rfl)) (fun _ _ _ h => h) (Or.inr ⟨by rfl, rfl⟩) ?_ ?_
       rotate_left
       ·simp only [Act.put, List.setIfInBounds_toArray, List.set_cons_zero, List.set_cons_succ, i64_w, i32_w]
        rfl
       refine pure_ (i := 11) (N := some 37) (v := undef) (a' := ?_) #[true, true, true, true, true, true, true, true, true, true, true, true, false, false, false, false] rfl rfl (any_of HT_.out (by kernel_rfl)) (fun _ _ _ h => h) (Or.inr ⟨by rfl, rfl⟩) ?_ ?_
       rotate_left
       ·simp only [Act.put, List.setIfInBounds_toArray, List.set_cons_zero, List.set_cons_succ, i64_w, i32_w]
        rfl
       refine pure_ (i := 12) (N := some 38) (v := undef) (a' := ?_) #[true, true, true, true, true, true, true, true, true, true, true, true, true, false, false, false] rfl rfl (any_of HT_.out (by kernel_rfl)) (fun _ _ _ h => h) (Or.inr ⟨by rfl, rfl⟩) ?_ ?_
       rotate_left
       ·simp only [Act.put, List.setIfInBounds_toArray, List.set_cons_zero, List.set_cons_succ, i64_w, i32_w]
        rfl
       refine pure_ (i := 13) (N := some 39) (v := undef) (a' := ?_) #[true, true, true, true, true, true, true, true, true, true, true, true, true, true, false, false] rfl rfl (any_of HT_.out (by kernel_rfl)) (fun _ _ _ h => h) (Or.inr ⟨by rfl, rfl⟩) ?_ ?_
       rotate_left
       ·simp only [Act.put, List.setIfInBounds_toArray, List.set_cons_zero, List.set_cons_succ, i64_w, i32_w]
        rfl
       refine pure_ (i := 14) (N := some 40) (v := ?_) (a' := ?_) #[true, true, true, true, true, true, true, true, true, true, true, true, true, true, true, false] rfl rfl (any_of HT_.out (by kernel_rfl)) (fun _ _ _ h => h) (Or.inl ⟨by rfl, ?_⟩) ?_ ?_
       rotate_left
       ·intro w'
        go_simp
        with_reducible rfl
       rotate_left
       ·simp only [Act.put, List.setIfInBounds_toArray, List.set_cons_zero, List.set_cons_succ, i64_w, i32_w]
        rfl
       refine pure_ (i := 15) (N := some 2) (v := ?_) (a' := ?_) #[true, true, true, true, true, true, true, true, true, true, true, true, true, true, true, true] rfl rfl (any_of HT_.out (by kernel_rfl)) (fun _ _ _ h => h) (Or.inl ⟨by rfl, ?_⟩) ?_ ?_
       rotate_left
       ·intro w'
        go_simp
        with_reducible rfl
       rotate_left
       ·simp only [Act.put, List.setIfInBounds_toArray, List.set_cons_zero, List.set_cons_succ, i64_w, i32_w]
        rfl
       refine done_ (done_of HT_.out (by kernel_rfl)) ?_
       try go_wp2
       go_ret
       exact ⟨z9_2, z9_5⟩
     ·replace c39 := Bool.eq_false_iff.mpr c39
      subst c39
      have H1 : (some false) = some r := by rw [if_neg (show ¬ (false = true) by decide)] at H; exact H
      clear H
      have H := H1
      clear H1
      obtain rfl := Option.some.inj H
      try go_wp2
      have n0_ := am_ (Kd.N_drew HO_878000.out)
      have n1_ := am_ (Kd.N_drew HO_882000.out)
      have n2_ := am_ (blk_drew BK877.out)
      have n3_ := am_ (blk_drew BK881.out)
      have n4_ := am_ (below_drew1 HB.out)
      clear HO_878000 HO_882000 BK877 BK881 HB
      have HO_878000 := n0_
      have HO_882000 := n1_
      have BK877 := n2_
      have BK881 := n3_
      have HB := n4_
      clear n0_ n1_ n2_ n3_ n4_
      refine start_ (n := 16) (S := fun w' => w'.cell? ⟨gb881, 0, none⟩ = some (.slice Ao12 t878.length co12)) (ds := []) #[false, false, false, false, false, false, false, false, false, false, false, false, false, false, false, false] (by kernel_rfl) rfl rfl ((blk_cell BK881.out 0).trans rfl) (fun hHeld => ?_); refine with_tabW laws_FnTurnPlain.tab7 laws_FnTurnPlain.bits7 (fun HT_ HW_ => ?_)
      generalize wc.drew = w56 at HO_878000 HO_882000 BK877 BK881 HB hHeld ⊢
      refine take_ (i := 0) (N := some 26) (v := ?_) (a' := ?_) #[true, false, false, false, false, false, false, false, false, false, false, false, false, false, false, false] rfl rfl (take_ofW HT_.out HW_.out (by kernel_rfl)) (fun _ _ _ h => h) (Or.inl ⟨by rfl, ?_⟩) hHeld ?_ ?_
      rotate_left
      ·intro w' s0
       go_simp
       with_reducible rfl
      rotate_left
      ·simp only [Act.put, List.setIfInBounds_toArray, List.set_cons_zero, List.set_cons_succ, i64_w, i32_w]
       rfl
      refine take_ (i := 2) (N := some 28) (v := ?_) (a' := ?_) #[true, false, true, false, false, false, false, false, false, false, false, false, false, false, false, false] rfl rfl (take_ofW HT_.out HW_.out (by kernel_rfl)) (fun _ _ _ h => h) (Or.inl ⟨by rfl, ?_⟩) hHeld ?_ ?_
      rotate_left
      ·intro w' s0
       go_simp
       with_reducible rfl
      rotate_left
      ·simp only [Act.put, List.setIfInBounds_toArray, List.set_cons_zero, List.set_cons_succ, i64_w, i32_w]
       rfl
      refine one_ (i := 1) (N := some 27) #[true, true, true, false, false, false, false, false, false, false, false, false, false, false, false, false] rfl rfl (one_of HT_.out (by kernel_rfl)) (by decide) (fun K hK => ?_)
      refine goes_ Try.func35 (by kernel_rfl) rfl #[.agg #[.slice Ao12 t878.length co12]] (by rfl) rfl rfl (by (try simp only [List.map_toArray, List.map_cons, List.map_nil]); first | done | rfl | (simp only [List.length_drop, List.length_take]; rfl)) ?_
      with_reducible refine (impl_TurnPlain.calls kj4 _ _ t878 t891 _ ?side1 ?side2 A37.out).mono ?_
      (case side1 => repeat (first | exact (Kd.N_reads' HO_882000.out).2.2 | (with_reducible refine Kd.C_alloc ?_ _) | (with_reducible refine Kd.C_drewN ?_ _) | (with_reducible refine Kd.C_drew ?_)))
      (case side2 => exact (Kd.N_reads' HO_882000.out).2.1)
      rintro e w57 ⟨v892, rfl, ho0, hb⟩
      refine ⟨_, rfl, ?_⟩
      have n0_ := am_ (Kd.N_elder' (nu HO_878000.out) z9_1 hb)
      have n1_ := am_ (Kd.N_elder' (nu HO_882000.out) z9_1 hb)
      have n2_ := am_ (Kd.N_lower (Kd.N_mono (ok' := fun k_ => some k_ ≠ (.slice Ao8 t874.length co8 : Value).ownBlock ∧ some k_ ≠ (.slice Ao12 t878.length co12 : Value).ownBlock ∧ k_ ≠ gb877 ∧ k_ ≠ gb881) (Kd.S_N (Kd.S_bound ho0)) (fun k_ hk_ => ⟨(Kd.fresh' (Kd.N_lt (nu HO_878000.out)) k_ hk_.2.1), (Kd.fresh' (Kd.N_lt (nu HO_882000.out)) k_ hk_.2.1), (Kd.freshB (bu BK877.out) k_ hk_.2.1), (Kd.freshB (bu BK881.out) k_ hk_.2.1)⟩)) (below_size z9_5))
      have n3_ := am_ (blk_below (bu BK877.out) hb)
      have n4_ := am_ (blk_below (bu BK881.out) hb)
      have n5_ := am_ (below_step z9_5 hb)
      clear HO_878000 HO_882000 BK877 BK881 HB
      have HO_878000 := n0_
      have HO_882000 := n1_
      have HO893 := n2_
      have BK877 := n3_
      have BK881 := n4_
      have HB := n5_
      clear n0_ n1_ n2_ n3_ n4_ n5_
      (try clear hb)
      (try clear hb2)
      (try clear hk)
      (try clear hi)
      (try clear ho0)
      obtain ⟨Ao58, co58, eo58⟩ := Kd.N_slice HO893.out
      (first | subst eo58 | (injection eo58 with f1_ f2_ f3_; have f4_ := f1_.symm; have f5_ := f3_.symm; clear f1_ f2_ f3_; subst f4_; subst f5_))
      refine hK.out _ _ ((blk_cell BK881.out 0).trans rfl) (fun hHeld => ?_)
      clear hK K
      refine norm_ (a' := ?_) ?_ ?_
      rotate_left
      ·show Act.put _ (some 27) _ = _
       simp only [Act.put, List.setIfInBounds_toArray, List.set_cons_zero, List.set_cons_succ, i64_w, i32_w]
       rfl
      refine one_ (i := 3) (N := some 29) #[true, true, true, true, false, false, false, false, false, false, false, false, false, false, false, false] rfl rfl (one_of HT_.out (by kernel_rfl)) (by decide) (fun K hK => ?_)
      refine goes_ Try.func30 (by kernel_rfl) rfl #[.agg #[.slice Ao58 t891.length co58], .agg #[.slice Ao12 t878.length co12]] (by rfl) rfl rfl (by (try simp only [List.map_toArray, List.map_cons, List.map_nil]); first | done | rfl | (simp only [List.length_drop, List.length_take]; rfl)) ?_
      with_reducible refine (laws_lpProg.calls kj4 _ _ t891 _ _ t878 false _ ?side1 ?side2 ?side3 ?side4 A38.out).mono ?_
      (case side1 => repeat (first | exact (Kd.N_reads' HO893.out).2.2 | (with_reducible refine Kd.C_alloc ?_ _) | (with_reducible refine Kd.C_drewN ?_ _) | (with_reducible refine Kd.C_drew ?_)))
      (case side2 => exact (Kd.N_reads' HO893.out).2.1)
      (case side3 => repeat (first | exact (Kd.N_reads' HO_882000.out).2.2 | (with_reducible refine Kd.C_alloc ?_ _) | (with_reducible refine Kd.C_drewN ?_ _) | (with_reducible refine Kd.C_drew ?_)))
      (case side4 => exact (Kd.N_reads' HO_882000.out).2.1)
      rintro e w59 ⟨rfl, hb⟩
      refine ⟨_, rfl, ?_⟩
      have n0_ := am_ (Kd.N_below (nu HO_878000.out) hb)
      have n1_ := am_ (Kd.N_below (nu HO_882000.out) hb)
      have n2_ := am_ (Kd.N_below (nu HO893.out) hb)
      have n3_ := am_ (blk_below (bu BK877.out) hb)
      have n4_ := am_ (blk_below (bu BK881.out) hb)
      have n5_ := am_ (below_step z9_5 hb)
      clear HO_878000 HO_882000 HO893 BK877 BK881 HB
      have HO_878000 := n0_
      have HO_882000 := n1_
      have HO893 := n2_
      have BK877 := n3_
      have BK881 := n4_
      have HB := n5_
      clear n0_ n1_ n2_ n3_ n4_ n5_
      (try clear hb)
      (try clear hb2)
      (try clear hk)
      (try clear hi)
      refine hK.out _ _ ((blk_cell BK881.out 0).trans rfl) (fun hHeld => ?_)
      clear hK K
      refine norm_ (a' := ?_) ?_ ?_
      rotate_left
      ·show Act.put _ (some 29) _ = _
       simp only [Act.put, List.setIfInBounds_toArray, List.set_cons_zero, List.set_cons_succ, i64_w, i32_w]
       rfl
      refine pure_ (i := 4) (N := some 30) (v := ?_) (a' := ?_) #[true, true, true, true, true, false, false, false, false, false, false, false, false, false, false, false] rfl rfl (any_of HT_.out (by kernel_rfl)) (fun _ _ _ h => h) (Or.inl ⟨by rfl, ?_⟩) ?_ ?_
      rotate_left
      ·intro w'
       go_simp
       with_reducible rfl
      rotate_left
      ·simp only [Act.put, List.setIfInBounds_toArray, List.set_cons_zero, List.set_cons_succ, i64_w, i32_w]
       rfl
      refine pure_ (i := 5) (N := some 31) (v := undef) (a' := ?_) #[true, true, true, true, true, true, false, false, false, false, false, false, false, false, false, false] rfl rfl (any_of HT_.out (by kernel_rfl)) (fun _ _ _ h => h) (Or.inr ⟨by rfl, rfl⟩) ?_ ?_
      rotate_left
      ·simp only [Act.put, List.setIfInBounds_toArray, List.set_cons_zero, List.set_cons_succ, i64_w, i32_w]
       rfl
      refine pure_ (i := 6) (N := some 32) (v := undef) (a' := ?_) #[true, true, true, true, true, true, true, false, false, false, false, false, false, false, false, false] rfl rfl (any_of HT_.out (by kernel_rfl)) (fun _ _ _ h => h) (Or.inr ⟨by rfl, rfl⟩) ?_ ?_
      rotate_left
      ·simp only [Act.put, List.setIfInBounds_toArray, List.set_cons_zero, List.set_cons_succ, i64_w, i32_w]
       rfl
      refine pure_ (i := 7) (N := some 33) (v := ?_) (a' := ?_) #[true, true, true, true, true, true, true, true, false, false, false, false, false, false, false, false] rfl rfl (any_of HT_.out (by kernel_rfl)) (fun _ _ _ h => h) (Or.inl ⟨by rfl, ?_⟩) ?_ ?_
      rotate_left
      ·intro w'
       go_simp
       with_reducible rfl
      rotate_left
      ·simp only [Act.put, List.setIfInBounds_toArray, List.set_cons_zero, List.set_cons_succ, i64_w, i32_w]
       rfl
      refine pure_ (i := 8) (N := some 34) (v := ?_) (a' := ?_) #[true, true, true, true, true, true, true, true, true, false, false, false, false, false, false, false] rfl rfl (any_of HT_.out (by kernel_rfl)) (fun _ _ _ h => h) (Or.inl ⟨by rfl, ?_⟩) ?_ ?_
      rotate_left
      ·intro w'
       go_simp
       with_reducible rfl
      rotate_left
      ·simp only [Act.put, List.setIfInBounds_toArray, List.set_cons_zero, List.set_cons_succ, i64_w, i32_w]
       rfl
      refine pure_ (i := 9) (N := some 35) (v := undef) (a' := ?_) #[true, true, true, true, true, true, true, true, true, true, false, false, false, false, false, false] rfl rfl (any_of HT_.out (by kernel_rfl)) (fun _ _ _ h => h) (Or.inr ⟨by rfl, rfl⟩) ?_ ?_
      rotate_left
      ·simp only [Act.put, List.setIfInBounds_toArray, List.set_cons_zero, List.set_cons_succ, i64_w, i32_w]
       rfl
      refine pure_ (i := 10) (N := some 36) (v := undef) (a' := ?_) #[true, true, true, true, true, true, true, true, true, true, true, false, false, false, false, false] rfl rfl (any_of HT_.out (by kernel_rfl)) (fun _ _ _ h => h) (Or.inr ⟨by rfl, rfl⟩) ?_ ?_
      rotate_left
      ·simp only [Act.put, List.setIfInBounds_toArray, List.set_cons_zero, List.set_cons_succ, i64_w, i32_w]
       rfl
      refine pure_ (i := 11) (N := some 37) (v := undef) (a' := ?_) #[true, true, true, true, true, true, true, true, true, true, true, true, false, false, false, false] rfl rfl (any_of HT_.out (by kernel_rfl)) (fun _ _ _ h => h) (Or.inr ⟨by rfl, rfl⟩) ?_ ?_
      rotate_left
      ·simp only [Act.put, List.setIfInBounds_toArray, List.set_cons_zero, List.set_cons_succ, i64_w, i32_w]
       rfl
      refine pure_ (i := 12) (N := some 38) (v := undef) (a' := ?_) #[true, true, true, true, true, true, true, true, true, true, true, true, true, false, false, false] rfl rfl (any_of HT_.out (by kernel_rfl)) (fun _ _ _ h => h) (Or.inr ⟨by rfl, rfl⟩) ?_ ?_
      rotate_left
      ·simp only [Act.put, List.setIfInBounds_toArray, List.set_cons_zero, List.set_cons_succ, i64_w, i32_w]
       rfl
      refine pure_ (i := 13) (N := some 39) (v := undef) (a' := ?_) #[true, true, true, true, true, true, true, true, true, true, true, true, true, true, false, false] rfl rfl (any_of HT_.out (by kernel_rfl)) (fun _ _ _ h => h) (Or.inr ⟨by rfl, rfl⟩) ?_ ?_
      rotate_left
      ·simp only [Act.put, List.setIfInBounds_toArray, List.set_cons_zero, List.set_cons_succ, i64_w, i32_w]
       rfl
      refine pure_ (i := 14) (N := some 40) (v := ?_) (a' := ?_) #[true, true, true, true, true, true, true, true, true, true, true, true, true, true, true, false] rfl rfl (any_of HT_.out (by kernel_rfl)) (fun _ _ _ h => h) (Or.inl ⟨by rfl, ?_⟩) ?_ ?_
      rotate_left
      ·intro w'
       go_simp
       with_reducible rfl
      rotate_left
      ·simp only [Act.put, List.setIfInBounds_toArray, List.set_cons_zero, List.set_cons_succ, i64_w, i32_w]
       rfl
      refine pure_ (i := 15) (N := some 2) (v := ?_) (a' := ?_) #[true, true, true, true, true, true, true, true, true, true, true, true, true, true, true, true] rfl rfl (any_of HT_.out (by kernel_rfl)) (fun _ _ _ h => h) (Or.inl ⟨by rfl, ?_⟩) ?_ ?_
      rotate_left
      ·intro w'
       go_simp
       with_reducible rfl
      rotate_left
      ·simp only [Act.put, List.setIfInBounds_toArray, List.set_cons_zero, List.set_cons_succ, i64_w, i32_w]
       rfl
      refine done_ (done_of HT_.out (by kernel_rfl)) ?_
      try go_wp2
      go_ret
      exact ⟨z9_2, z9_5⟩

/-- THE ONE PURE STATEMENT of laws_FnTurnPlain: yours. -/
def laws_FnTurnPlain.Pure : Prop := ∀ (l0 : List Int), l0.length ≤ maxLen → l0.length * 1 ≤ 140737488351232 → (∀ x ∈ l0, (Lit.int .u8 x).wf = true) → ∃ k, laws_FnTurnPlain.f k l0 = some true
theorem laws_FnTurnPlain.walk (P : laws_FnTurnPlain.Pure) (a0 : Option Addr) (len0 cap0 : Nat) (z0 : List Int) (w : World) (w0 : (a0 = none ∧ len0 = 0 ∧ cap0 = 0 ∧ z0 = []) ∨ ∃ x, a0 = some x ∧ len0 ≤ cap0 ∧ cap0 ≤ maxLen ∧ z0.length = cap0 ∧ (∀ i, i < z0.length → w.cell? (x.add i) = some (.int .u8 (z0.getD i 0))) ∧ ∀ n ∈ z0, (Lit.int .u8 n).wf = true) (y0 : len0 * 1 ≤ 140737488351232) :
  Calls Try.prog 9 #[.slice a0 len0 cap0] w fun e w' => e = .returned (.bool true) ∧ Below w.heap.size w w' := by
 obtain ⟨l0, rfl, hr0, hm0, hw0, hc0⟩ := ReadsInt.ofRowC w0
 obtain ⟨k, h⟩ := P l0 hm0 y0 hw0
 refine (laws_FnTurnPlain.calls k _ _ l0 true w (Kd.C_of_reads (d := (0 : Int)) (h1 := fun _ => rfl) hr0) hc0 h).mono ?_
 rintro e w' ⟨rfl, hd⟩
 exact ⟨rfl, hd⟩

end Go.Proofs.Ytefkbmhkhpekjaa.PB

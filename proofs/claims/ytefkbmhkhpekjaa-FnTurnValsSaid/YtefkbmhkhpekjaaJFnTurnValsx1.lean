-- Joined by wip/mclaim.py out of YtefkbmhkhpekjaaPBx92, YtefkbmhkhpekjaaPBx101, YtefkbmhkhpekjaaPBx50
import Derived.Test.YtefkbmhkhpekjaaPBx0
import Derived.Test.YtefkbmhkhpekjaaPBx70
import Derived.Test.YtefkbmhkhpekjaaPBx71
import Derived.Test.YtefkbmhkhpekjaaJFnTurnValsyPBx123
import Derived.Test.YtefkbmhkhpekjaaPBx124
namespace Go.Proofs.Ytefkbmhkhpekjaa.PB
open Go.RowKit Go.Proofs.YtefkbmhkhpekjaaW.PrintWords Go.Proofs.YtefkbmhkhpekjaaW.PrintLast Go.Proofs.YtefkbmhkhpekjaaW.PrintMore
attribute [local go_sem] max2_int min2_int max_two min_two max_three min_three max_four min_four   -- for this text's walks alone
open Go.Proofs.YtefkbmhkhpekjaaMine
set_option linter.unusedVariables false
set_option linter.unusedSimpArgs false

theorem z92_1 {p : Prop} (h : p := by first | rfl | (simp [errW_none, errW_some] <;> rfl) | (simp [*, errW_none, errW_some] <;> rfl)) : p := h
theorem z92_2 {p : Prop} (h : p := by repeat (first | (with_reducible first | exact HK.out | apply KeepBut.set_ | apply keep_drewN | apply keep_drew | apply keep_alloc) | exact HK.out)) : p := h
theorem z92_3 {p : Prop} (h : p := by repeat (first | (with_reducible first | exact HI0.out | apply IsS116.alloc | apply IsS116.drewN | apply IsS116.drew | apply IsS116.set_1) | exact HI0.out)) : p := h
theorem z92_4 {p : Prop} (h : p := by repeat (first | (with_reducible first | exact HB.out | apply below_alloc | apply pw_below_drewN | apply below_drew1 | refine below_set ?_ (IsS116.ge HI0.out)) | exact HB.out)) : p := h
theorem z92_5 {p : Prop} (h : p := by repeat (first | (with_reducible first | exact HK.out | apply KeepBut.set_ | apply keep_drewN | apply keep_drew | apply keep_alloc | refine keep_far ?_ GW837.out _) | exact HK.out)) : p := h
theorem z92_6 {p : Prop} (h : p := by repeat (first | (with_reducible first | exact HI0.out | apply IsS116.alloc | apply IsS116.drewN | apply IsS116.drew | apply IsS116.set_1 | refine IsS116.far ?_ NB0_837.out _) | exact HI0.out)) : p := h
theorem z92_7 {p : Prop} (h : p := by repeat (first | (with_reducible first | exact HB.out | apply below_alloc | apply pw_below_drewN | apply below_drew1 | refine below_set ?_ (IsS116.ge HI0.out) | refine below_set ?_ GE837.out) | exact HB.out)) : p := h
theorem z92_8 {p : Prop} (h : p := by repeat (first | (with_reducible first | exact HK.out | apply KeepBut.set_ | apply keep_drewN | apply keep_drew | apply keep_alloc | refine keep_far ?_ GW837.out _ | refine keep_far ?_ GW842.out _) | exact HK.out)) : p := h
theorem z92_9 {p : Prop} (h : p := by repeat (first | (with_reducible first | exact HI0.out | apply IsS116.alloc | apply IsS116.drewN | apply IsS116.drew | apply IsS116.set_1 | refine IsS116.far ?_ NB0_837.out _ | refine IsS116.far ?_ NB0_842.out _) | exact HI0.out)) : p := h
theorem z92_10 {p : Prop} (h : p := by repeat (first | (with_reducible first | exact HB.out | apply below_alloc | apply pw_below_drewN | apply below_drew1 | refine below_set ?_ (IsS116.ge HI0.out) | refine below_set ?_ GE837.out | refine below_set ?_ GE842.out) | exact HB.out)) : p := h
theorem z92_11 {p : Prop} (h : p := by (with_reducible repeat (first | refine blk_drewN ?_ _ | refine blk_drew ?_ | refine blk_alloc ?_ _)); refine blk_far ?_ NB837_842.out _; (with_reducible repeat (first | refine blk_drewN ?_ _ | refine blk_drew ?_ | refine blk_alloc ?_ _)); exact BK837.out) : p := h
theorem z92_12 {p : Prop} (h : p := by (with_reducible repeat (first | refine blk_drewN ?_ _ | refine blk_drew ?_ | refine blk_alloc ?_ _)); refine blk_put (cs := #[.slice none 0 0]) ?_ 0 _ rfl; (with_reducible repeat (first | refine blk_drewN ?_ _ | refine blk_drew ?_ | refine blk_alloc ?_ _)); exact BK842.out) : p := h
theorem z92_13 {p : Prop} (h : p := by (with_reducible repeat (first | refine blk_drewN ?_ _ | refine blk_drew ?_ | refine blk_alloc ?_ _)); refine blk_put (cs := #[.slice none 0 0]) ?_ 0 _ rfl; (with_reducible repeat (first | refine blk_drewN ?_ _ | refine blk_drew ?_ | refine blk_alloc ?_ _)); exact BK837.out) : p := h
/-! ### spec_l71Any: function 92 -/
def spec_l71Any.f (k : Nat) (s0_0 : List Int) (s0_1 : Int) : Option ((List (List (S85))) × Int) := (spec_l71Prog.f k s0_0 s0_1).bind fun bt838 => ((spec_l6Rd_pick.f k s0_0 bt838.2 16).bind fun bt843 => (if bt843.1 = 0 then ((spec_l71Bad.f k s0_0 bt843.2 bt838.1).bind fun bt845 => (some (bt845.1, bt845.2))) else (some (bt838.1, bt843.2))))
theorem spec_l71Any.mono : ∀ a0 a1 k, LeO (spec_l71Any.f k a0 a1) (spec_l71Any.f (k + 1) a0 a1) := by
  intro a0 a1 k
  unfold spec_l71Any.f
  repeat' first
      | (with_reducible exact spec_l6Rd_pick.mono _ _ _ _)
      | (with_reducible exact spec_l71Bad.mono _ _ _ _)
      | (with_reducible exact spec_l71Prog.mono _ _ _)
      | (with_reducible exact LeO.refl _)
      | (with_reducible exact LeO.none _)
      | (with_reducible refine LeO.ite ?_ ?_)
      | (with_reducible refine LeO.bind ?_ (fun _ => ?_))
      | exact spec_l6Rd_pick.mono _ _ _ _
      | exact spec_l71Bad.mono _ _ _ _
      | exact spec_l71Prog.mono _ _ _
      | exact LeO.none _
      | refine LeO.ite ?_ ?_
      | refine LeO.bind ?_ (fun _ => ?_)
set_option maxHeartbeats 8000000 in
set_option maxRecDepth 100000 in
theorem spec_l71Any.calls (k : Nat) (g : Nat) (s0_0 : List Int) (s0_1 : Int) (r1 : List (List (S85))) (r2 : Int) (w0 w : World) (hI : IsS116 w0 w g s0_0 s0_1) (hB : Below w0.heap.size w0 w) (h : spec_l71Any.f k s0_0 s0_1 = some (r1, r2)) :
  Calls Try.prog 92 #[.pointer (some ⟨g, 0, none⟩)] w fun e w' => ∃ v0_ : Value, e = .returned (.agg #[v0_]) ∧ Kd.N (Kd.slice 85 k85) 82 w' w.heap.size (fun k_ => (w.heap.size ≤ k_)) v0_ r1 ∧ IsS116 w0 w' g s0_0 r2 ∧ Below w0.heap.size w0 w' ∧ KeepBut w w' g none := by
 have hu35 := Try.underlying35
 have HI0 := am_ hI
 have HK := am_ (KeepBut.refl w g none)
 have HL := am_ hB.size
 clear hI
 have HW0 := am_ hB.size
 have HB := am_ hB
 clear hB
 have H : ((spec_l71Prog.f k s0_0 s0_1).bind fun bt838 => ((spec_l6Rd_pick.f k s0_0 bt838.2 16).bind fun bt843 => (if bt843.1 = 0 then ((spec_l71Bad.f k s0_0 bt843.2 bt838.1).bind fun bt845 => (some (bt845.1, bt845.2))) else (some (bt838.1, bt843.2))))) = some (r1, r2) := h
 clear h
 replace H := Option.bind_eq_some_iff.mp H
 obtain ⟨⟨t838, t841⟩, A20, H⟩ := H
 replace H : ((spec_l6Rd_pick.f k s0_0 t841 16).bind fun bt843 => (if bt843.1 = 0 then ((spec_l71Bad.f k s0_0 bt843.2 t838).bind fun bt845 => (some (bt845.1, bt845.2))) else (some (t838, bt843.2)))) = some (r1, r2) := H
 have A2 := am_ A20
 clear A20
 replace H := Option.bind_eq_some_iff.mp H
 obtain ⟨⟨t843, t844⟩, A30, H⟩ := H
 replace H : (if t843 = 0 then ((spec_l71Bad.f k s0_0 t844 t838).bind fun bt845 => (some (bt845.1, bt845.2))) else (some (t838, t844))) = some (r1, r2) := H
 have A3 := am_ A30
 clear A30
 by_cases c4 : t843 = 0
 ·rw [if_pos c4] at H
  have c4b0 : (t843 == 0) = true := beq_iff_eq.mpr c4
  have c4b1 : (t843 != 0) = false := bne_eq_false_iff_eq.mpr c4
  clear c4
  replace H := Option.bind_eq_some_iff.mp H
  obtain ⟨⟨t845, t848⟩, A50, H⟩ := H
  replace H : (some (t845, t848)) = some (r1, r2) := H
  have A5 := am_ A50
  clear A50
  simp only [Option.some.injEq, Prod.mk.injEq] at H
  obtain ⟨rfl, rfl⟩ := H
  go_enter Try.func92, Try.ntmps92
  go_wp2_with (first | ((with_reducible refine gate_dst (N := 2) rfl ?_); refine box_event ?hg (N := 2) ?hd (cs := #[.slice none 0 0]) (t := 35) ?hr ?_; (case hd => rfl); (case hg => rfl); (case hr => first | (go_simp; done) | (go_simp; rfl)); intro gb837 hg w6 hbox hb; have n0_ := am_ (IsS116.below z92_3 hb); have n1_ := am_ (KeepBut.trans z92_2 (KeepBut.of_below hb g none) (.inl rfl)); have n2_ := am_ (below_step z92_4 hb); have n3_ := am_ (hbox); have n4_ := am_ (by rw [hg]; exact (keep_size (w := w) (g := g) (row := none) z92_2) : w.heap.size ≤ gb837); have n5_ := am_ (Nat.le_trans HW0.out (by rw [hg]; exact (keep_size (w := w) (g := g) (row := none) z92_2) : w.heap.size ≤ gb837) : w0.heap.size ≤ gb837); have n6_ := am_ (by rw [hg]; exact Nat.ne_of_lt (IsS116.lt (show IsS116 w0 _ g s0_0 s0_1 from by repeat (first | (with_reducible first | exact HI0.out | apply IsS116.alloc | apply IsS116.drewN | apply IsS116.drew | apply IsS116.set_1) | exact HI0.out))) : g ≠ gb837); have n7_ := am_ (by rw [hg]; exact Nat.ne_of_gt (IsS116.lt (show IsS116 w0 _ g s0_0 s0_1 from by repeat (first | (with_reducible first | exact HI0.out | apply IsS116.alloc | apply IsS116.drewN | apply IsS116.drew | apply IsS116.set_1) | exact HI0.out))) : gb837 ≠ g); clear HI0 HK HB; have HI0 := n0_; have HK := n1_; have HB := n2_; have BK837 := n3_; have GW837 := n4_; have GE837 := n5_; have NB0_837 := n6_; have NB837_0 := n7_; clear n0_ n1_ n2_ n3_ n4_ n5_ n6_ n7_; clear hb hbox hg) | ((with_reducible refine gate_callee (f := 123) rfl ?_); refine goesL_ (some 5) rfl rfl Try.func123 (by kernel_rfl) rfl #[.pointer (some ⟨g, 0, none⟩)] rfl (by (try simp only [List.map_toArray, List.map_cons, List.map_nil]); first | done | rfl | (simp only [List.length_drop, List.length_take]; rfl)) ?_; (with_reducible refine (spec_l71Prog.calls k g s0_0 s0_1 t838 t841 w0 _ ?side1 ?side2 A2.out).mono ?_); (case side1 => repeat (first | (with_reducible first | exact HI0.out | apply IsS116.alloc | apply IsS116.drewN | apply IsS116.drew | apply IsS116.set_1 | refine IsS116.far ?_ NB0_837.out _) | exact HI0.out)); (case side2 => repeat (first | (with_reducible first | exact HB.out | apply below_alloc | apply pw_below_drewN | apply below_drew1 | refine below_set ?_ (IsS116.ge HI0.out) | refine below_set ?_ GE837.out) | exact HB.out)); rintro e w7 ⟨v839, rfl, ho0, hi, hb, hk⟩; refine ⟨_, rfl, ?_⟩; have n0_ := am_ (KeepBut.blk hk (bu BK837.out) NB837_0.out (by simp)); have n1_ := am_ (Kd.N_lower (Kd.N_mono (ok' := fun k_ => (w.heap.size ≤ k_) ∧ k_ ≠ gb837 ∧ k_ ≠ g) (Kd.S_N (Kd.S_bound ho0)) (fun k_ hk_ => ⟨(Nat.le_trans (keep_size (w := w) (g := g) (row := none) z92_5) hk_.2.1), (Kd.freshB (bu BK837.out) k_ hk_.2.1), (IsS116.fresh z92_6 k_ hk_.2.1)⟩)) (keep_size (w := w) (g := g) (row := none) z92_5)); have n2_ := am_ (KeepBut.trans z92_5 hk (.inl rfl)); have n3_ := am_ (hb); have n4_ := am_ (hi); clear BK837 HK HB HI0; have BK837 := n0_; have HO840 := n1_; have HK := n2_; have HB := n3_; have HI0 := n4_; clear n0_ n1_ n2_ n3_ n4_; (try clear hb); (try clear hb2); (try clear hk); (try clear hi); (try clear ho0)) | ((with_reducible refine gate_dst (N := 3) rfl ?_); refine box_event ?hg (N := 3) ?hd (cs := #[.slice none 0 0]) (t := 35) ?hr ?_; (case hd => rfl); (case hg => rfl); (case hr => first | (go_simp; done) | (go_simp; rfl)); intro gb842 hg w8 hbox hb; have n0_ := am_ (Kd.N_below (Kd.N_elderB (nu HO840.out) gb842 (Nat.le_of_eq hg.symm)) hb); have n1_ := am_ (IsS116.below z92_6 hb); have n2_ := am_ (blk_below (bu BK837.out) hb); have n3_ := am_ (KeepBut.trans z92_5 (KeepBut.of_below hb g none) (.inl rfl)); have n4_ := am_ (below_step z92_7 hb); have n5_ := am_ (hbox); have n6_ := am_ (by rw [hg]; exact (keep_size (w := w) (g := g) (row := none) z92_5) : w.heap.size ≤ gb842); have n7_ := am_ (Nat.le_trans HW0.out (by rw [hg]; exact (keep_size (w := w) (g := g) (row := none) z92_5) : w.heap.size ≤ gb842) : w0.heap.size ≤ gb842); have n8_ := am_ (by rw [hg]; exact Nat.ne_of_lt (blk_lt (bu BK837.out)) : gb837 ≠ gb842); have n9_ := am_ (by rw [hg]; exact Nat.ne_of_gt (blk_lt (bu BK837.out)) : gb842 ≠ gb837); have n10_ := am_ (by rw [hg]; exact Nat.ne_of_lt (IsS116.lt (show IsS116 w0 _ g s0_0 t841 from by repeat (first | (with_reducible first | exact HI0.out | apply IsS116.alloc | apply IsS116.drewN | apply IsS116.drew | apply IsS116.set_1 | refine IsS116.far ?_ NB0_837.out _) | exact HI0.out))) : g ≠ gb842); have n11_ := am_ (by rw [hg]; exact Nat.ne_of_gt (IsS116.lt (show IsS116 w0 _ g s0_0 t841 from by repeat (first | (with_reducible first | exact HI0.out | apply IsS116.alloc | apply IsS116.drewN | apply IsS116.drew | apply IsS116.set_1 | refine IsS116.far ?_ NB0_837.out _) | exact HI0.out))) : gb842 ≠ g); clear HO840 HI0 BK837 HK HB; have HO840 := n0_; have HI0 := n1_; have BK837 := n2_; have HK := n3_; have HB := n4_; have BK842 := n5_; have GW842 := n6_; have GE842 := n7_; have NB837_842 := n8_; have NB842_837 := n9_; have NB0_842 := n10_; have NB842_0 := n11_; clear n0_ n1_ n2_ n3_ n4_ n5_ n6_ n7_ n8_ n9_ n10_ n11_; clear hb hbox hg; obtain ⟨Ao9, co9, eo9⟩ := Kd.N_slice HO840.out; subst eo9; have hnb10 := NB842_837.out; have hnc10 := NB837_842.out; have hnb11 := NB842_0.out; have hnc11 := NB0_842.out; have hcz12_0 : w8.cell? ⟨gb842, 0, none⟩ = some (.slice none 0 0) := (blk_cell BK842.out 0).trans rfl; have hfz12_0 := blk_frozen BK842.out 0) | ((with_reducible refine gate_callee (f := 71) rfl ?_); refine goesL_ (some 7) rfl rfl Try.func71 (by kernel_rfl) rfl #[.pointer (some ⟨g, 0, none⟩), .int .i64 16] rfl (by (try simp only [List.map_toArray, List.map_cons, List.map_nil]); first | done | rfl | (simp only [List.length_drop, List.length_take]; rfl)) ?_; (with_reducible refine (spec_l6Rd_pick.calls k g s0_0 t841 16 t843 t844 w0 _ ?side1 ?side2 A3.out).mono ?_); (case side1 => repeat (first | (with_reducible first | exact HI0.out | apply IsS116.alloc | apply IsS116.drewN | apply IsS116.drew | apply IsS116.set_1 | refine IsS116.far ?_ NB0_837.out _ | refine IsS116.far ?_ NB0_842.out _) | exact HI0.out)); (case side2 => repeat (first | (with_reducible first | exact HB.out | apply below_alloc | apply pw_below_drewN | apply below_drew1 | refine below_set ?_ (IsS116.ge HI0.out) | refine below_set ?_ GE837.out | refine below_set ?_ GE842.out) | exact HB.out)); rintro e w13 ⟨rfl, hi, hb, hk⟩; refine ⟨_, rfl, ?_⟩; have n0_ := am_ (KeepBut.blk hk (g' := gb837) (o := .cells #[.slice none 0 0] 35 (0, 0)) z92_11 NB837_0.out (by simp)); have n1_ := am_ (Kd.N_mono (Kd.N_keep (Kd.N_mono (ok := fun k_ => ((((w.heap.size ≤ k_)) ∧ (k_ ≠ gb837 ∧ k_ ≠ g)) ∧ k_ ≠ gb842)) (nu (Kd.N_mono (Kd.N_far (p := ⟨gb842, 0, none⟩) (Kd.N_mono HO840.out (fun k_ hk => (⟨hk, hk.2⟩ : _ ∧ k_ ≠ gb842))) (fun _ hk => hk.2) (.slice Ao9 t838.length co9)) (fun _ h_ => h_.1))) (fun k_ hk_ => (⟨hk_, hk_.1.2.2⟩ : _ ∧ k_ ≠ g))) hk (fun _ h => h.2)) (fun _ h => h.1)); have n2_ := am_ (KeepBut.blk hk (g' := gb842) (o := .cells #[.slice Ao9 t838.length co9] 35 (0, 0)) z92_12 NB842_0.out (by simp)); have n3_ := am_ (KeepBut.trans z92_8 hk (.inl rfl)); have n4_ := am_ (hb); have n5_ := am_ (hi); clear BK837 HO840 BK842 HK HB HI0; have BK837 := n0_; have HO840 := n1_; have BK842 := n2_; have HK := n3_; have HB := n4_; have HI0 := n5_; clear n0_ n1_ n2_ n3_ n4_ n5_; (try clear hb); (try clear hb2); (try clear hk); (try clear hi); have hcz14_0 : w13.cell? ⟨gb842, 0, none⟩ = some (.slice Ao9 t838.length co9) := (blk_cell BK842.out 0).trans rfl; have hfz14_0 := blk_frozen BK842.out 0) | ((with_reducible refine gate_callee (f := 124) rfl ?_); refine goesL_ (some 11) rfl rfl Try.func124 (by kernel_rfl) rfl #[.pointer (some ⟨g, 0, none⟩), .agg #[.slice Ao9 t838.length co9]] rfl (by (try simp only [List.map_toArray, List.map_cons, List.map_nil]); first | done | rfl | (simp only [List.length_drop, List.length_take]; rfl)) ?_; (with_reducible refine (spec_l71Bad.calls k g s0_0 t844 (fun k_ => (((w.heap.size ≤ k_) ∧ (k_ ≠ gb837 ∧ k_ ≠ g)) ∧ k_ ≠ gb842)) _ _ t838 t845 t848 w0 _ ?side1 ?side2 ?side3 A5.out).mono ?_); (case side1 => repeat (first | (with_reducible first | exact HI0.out | apply IsS116.alloc | apply IsS116.drewN | apply IsS116.drew | apply IsS116.set_1 | refine IsS116.far ?_ NB0_837.out _ | refine IsS116.far ?_ NB0_842.out _) | exact HI0.out)); (case side2 => repeat (first | (with_reducible first | exact HB.out | apply below_alloc | apply pw_below_drewN | apply below_drew1 | refine below_set ?_ (IsS116.ge HI0.out) | refine below_set ?_ GE837.out | refine below_set ?_ GE842.out) | exact HB.out)); (case side3 => exact Kd.V_mono (Kd.N_V (HO840.out)) (fun k_ hk_ => ⟨hk_, hk_.1.2.2⟩)); rintro e w15 ⟨v846, rfl, ho0, hi, hb, hk⟩; refine ⟨_, rfl, ?_⟩; have n0_ := am_ (KeepBut.blk hk (bu BK837.out) NB837_0.out (by simp)); have n1_ := am_ (Kd.N_mono (Kd.N_told (Kd.N_oldK (Kd.N_mono (ok := fun k_ => ((((w.heap.size ≤ k_)) ∧ (k_ ≠ gb837 ∧ k_ ≠ g)) ∧ k_ ≠ gb842)) (nu HO840.out) (fun k_ hk_ => (⟨hk_, hk_.1.2.2⟩ : _ ∧ k_ ≠ g))) hk) (by first | exact Kd.N_base ho0 | exact Kd.S_base ho0)) (fun _ h_ => h_.1)); have n2_ := am_ (KeepBut.blk hk (bu BK842.out) NB842_0.out (by simp)); have n3_ := am_ (Kd.N_lower (Kd.N_mono (ok' := fun k_ => (w.heap.size ≤ k_) ∧ k_ ≠ gb837 ∧ k_ ≠ gb842 ∧ k_ ≠ g) ho0 (fun k_ hk_ => ⟨Or.elim hk_ (fun hs_ => hs_.1.1) (fun hn_ => (Nat.le_trans (keep_size (w := w) (g := g) (row := none) z92_8) hn_)), Or.elim hk_ (fun hs_ => hs_.1.2.1) (fun hn_ => (Kd.freshB (bu BK837.out) k_ hn_)), Or.elim hk_ (fun hs_ => hs_.2) (fun hn_ => (Kd.freshB (bu BK842.out) k_ hn_)), Or.elim hk_ (fun hs_ => hs_.1.2.2) (fun hn_ => (IsS116.fresh z92_9 k_ hn_))⟩)) (keep_size (w := w) (g := g) (row := none) z92_8)); have n4_ := am_ (KeepBut.trans z92_8 hk (.inl rfl)); have n5_ := am_ (hb); have n6_ := am_ (hi); clear BK837 HO840 BK842 HK HB HI0; have BK837 := n0_; have HO840 := n1_; have BK842 := n2_; have HO847 := n3_; have HK := n4_; have HB := n5_; have HI0 := n6_; clear n0_ n1_ n2_ n3_ n4_ n5_ n6_; (try clear hb); (try clear hb2); (try clear hk); (try clear hi); (try clear ho0); obtain ⟨Ao16, co16, eo16⟩ := Kd.N_slice HO847.out; subst eo16; have hnb17 := NB837_0.out; have hnc17 := NB0_837.out; have hcz18_0 : w15.cell? ⟨gb837, 0, none⟩ = some (.slice none 0 0) := (blk_cell BK837.out 0).trans rfl; have hfz18_0 := blk_frozen BK837.out 0))
  refine bodyPost_ret (results_cell_row rfl _ _ gb837 35 #[.slice Ao16 t845.length co16] (0, 0) _ rfl z92_13 Try.underlying35 rfl (by kernel_rfl)) rfl ?_
  exact ⟨_, z92_1, nu (Kd.N_mono (Kd.N_far (p := ⟨gb837, 0, none⟩) (Kd.N_mono HO847.out (fun k_ hk => (⟨hk, hk.2.1⟩ : _ ∧ k_ ≠ gb837))) (fun _ hk => hk.2) (.slice Ao16 t845.length co16)) (fun _ hk => hk.1.1)), z92_9, z92_10, z92_8⟩
 ·rw [if_neg c4] at H
  have c4b0 : (t843 == 0) = false := beq_eq_false_iff_ne.mpr c4
  have c4b1 : (t843 != 0) = true := bne_iff_ne.mpr c4
  simp only [Option.some.injEq, Prod.mk.injEq] at H
  obtain ⟨rfl, rfl⟩ := H
  go_enter Try.func92, Try.ntmps92
  go_wp2_with (first | ((with_reducible refine gate_dst (N := 2) rfl ?_); refine box_event ?hg (N := 2) ?hd (cs := #[.slice none 0 0]) (t := 35) ?hr ?_; (case hd => rfl); (case hg => rfl); (case hr => first | (go_simp; done) | (go_simp; rfl)); intro gb837 hg w19 hbox hb; have n0_ := am_ (IsS116.below z92_3 hb); have n1_ := am_ (KeepBut.trans z92_2 (KeepBut.of_below hb g none) (.inl rfl)); have n2_ := am_ (below_step z92_4 hb); have n3_ := am_ (hbox); have n4_ := am_ (by rw [hg]; exact (keep_size (w := w) (g := g) (row := none) z92_2) : w.heap.size ≤ gb837); have n5_ := am_ (Nat.le_trans HW0.out (by rw [hg]; exact (keep_size (w := w) (g := g) (row := none) z92_2) : w.heap.size ≤ gb837) : w0.heap.size ≤ gb837); have n6_ := am_ (by rw [hg]; exact Nat.ne_of_lt (IsS116.lt (show IsS116 w0 _ g s0_0 s0_1 from by repeat (first | (with_reducible first | exact HI0.out | apply IsS116.alloc | apply IsS116.drewN | apply IsS116.drew | apply IsS116.set_1) | exact HI0.out))) : g ≠ gb837); have n7_ := am_ (by rw [hg]; exact Nat.ne_of_gt (IsS116.lt (show IsS116 w0 _ g s0_0 s0_1 from by repeat (first | (with_reducible first | exact HI0.out | apply IsS116.alloc | apply IsS116.drewN | apply IsS116.drew | apply IsS116.set_1) | exact HI0.out))) : gb837 ≠ g); clear HI0 HK HB; have HI0 := n0_; have HK := n1_; have HB := n2_; have BK837 := n3_; have GW837 := n4_; have GE837 := n5_; have NB0_837 := n6_; have NB837_0 := n7_; clear n0_ n1_ n2_ n3_ n4_ n5_ n6_ n7_; clear hb hbox hg) | ((with_reducible refine gate_callee (f := 123) rfl ?_); refine goesL_ (some 5) rfl rfl Try.func123 (by kernel_rfl) rfl #[.pointer (some ⟨g, 0, none⟩)] rfl (by (try simp only [List.map_toArray, List.map_cons, List.map_nil]); first | done | rfl | (simp only [List.length_drop, List.length_take]; rfl)) ?_; (with_reducible refine (spec_l71Prog.calls k g s0_0 s0_1 t838 t841 w0 _ ?side1 ?side2 A2.out).mono ?_); (case side1 => repeat (first | (with_reducible first | exact HI0.out | apply IsS116.alloc | apply IsS116.drewN | apply IsS116.drew | apply IsS116.set_1 | refine IsS116.far ?_ NB0_837.out _) | exact HI0.out)); (case side2 => repeat (first | (with_reducible first | exact HB.out | apply below_alloc | apply pw_below_drewN | apply below_drew1 | refine below_set ?_ (IsS116.ge HI0.out) | refine below_set ?_ GE837.out) | exact HB.out)); rintro e w20 ⟨v839, rfl, ho0, hi, hb, hk⟩; refine ⟨_, rfl, ?_⟩; have n0_ := am_ (KeepBut.blk hk (bu BK837.out) NB837_0.out (by simp)); have n1_ := am_ (Kd.N_lower (Kd.N_mono (ok' := fun k_ => (w.heap.size ≤ k_) ∧ k_ ≠ gb837 ∧ k_ ≠ g) (Kd.S_N (Kd.S_bound ho0)) (fun k_ hk_ => ⟨(Nat.le_trans (keep_size (w := w) (g := g) (row := none) z92_5) hk_.2.1), (Kd.freshB (bu BK837.out) k_ hk_.2.1), (IsS116.fresh z92_6 k_ hk_.2.1)⟩)) (keep_size (w := w) (g := g) (row := none) z92_5)); have n2_ := am_ (KeepBut.trans z92_5 hk (.inl rfl)); have n3_ := am_ (hb); have n4_ := am_ (hi); clear BK837 HK HB HI0; have BK837 := n0_; have HO840 := n1_; have HK := n2_; have HB := n3_; have HI0 := n4_; clear n0_ n1_ n2_ n3_ n4_; (try clear hb); (try clear hb2); (try clear hk); (try clear hi); (try clear ho0)) | ((with_reducible refine gate_dst (N := 3) rfl ?_); refine box_event ?hg (N := 3) ?hd (cs := #[.slice none 0 0]) (t := 35) ?hr ?_; (case hd => rfl); (case hg => rfl); (case hr => first | (go_simp; done) | (go_simp; rfl)); intro gb842 hg w21 hbox hb; have n0_ := am_ (Kd.N_below (Kd.N_elderB (nu HO840.out) gb842 (Nat.le_of_eq hg.symm)) hb); have n1_ := am_ (IsS116.below z92_6 hb); have n2_ := am_ (blk_below (bu BK837.out) hb); have n3_ := am_ (KeepBut.trans z92_5 (KeepBut.of_below hb g none) (.inl rfl)); have n4_ := am_ (below_step z92_7 hb); have n5_ := am_ (hbox); have n6_ := am_ (by rw [hg]; exact (keep_size (w := w) (g := g) (row := none) z92_5) : w.heap.size ≤ gb842); have n7_ := am_ (Nat.le_trans HW0.out (by rw [hg]; exact (keep_size (w := w) (g := g) (row := none) z92_5) : w.heap.size ≤ gb842) : w0.heap.size ≤ gb842); have n8_ := am_ (by rw [hg]; exact Nat.ne_of_lt (blk_lt (bu BK837.out)) : gb837 ≠ gb842); have n9_ := am_ (by rw [hg]; exact Nat.ne_of_gt (blk_lt (bu BK837.out)) : gb842 ≠ gb837); have n10_ := am_ (by rw [hg]; exact Nat.ne_of_lt (IsS116.lt (show IsS116 w0 _ g s0_0 t841 from by repeat (first | (with_reducible first | exact HI0.out | apply IsS116.alloc | apply IsS116.drewN | apply IsS116.drew | apply IsS116.set_1 | refine IsS116.far ?_ NB0_837.out _) | exact HI0.out))) : g ≠ gb842); have n11_ := am_ (by rw [hg]; exact Nat.ne_of_gt (IsS116.lt (show IsS116 w0 _ g s0_0 t841 from by repeat (first | (with_reducible first | exact HI0.out | apply IsS116.alloc | apply IsS116.drewN | apply IsS116.drew | apply IsS116.set_1 | refine IsS116.far ?_ NB0_837.out _) | exact HI0.out))) : gb842 ≠ g); clear HO840 HI0 BK837 HK HB; have HO840 := n0_; have HI0 := n1_; have BK837 := n2_; have HK := n3_; have HB := n4_; have BK842 := n5_; have GW842 := n6_; have GE842 := n7_; have NB837_842 := n8_; have NB842_837 := n9_; have NB0_842 := n10_; have NB842_0 := n11_; clear n0_ n1_ n2_ n3_ n4_ n5_ n6_ n7_ n8_ n9_ n10_ n11_; clear hb hbox hg; obtain ⟨Ao22, co22, eo22⟩ := Kd.N_slice HO840.out; subst eo22; have hnb23 := NB842_837.out; have hnc23 := NB837_842.out; have hnb24 := NB842_0.out; have hnc24 := NB0_842.out; have hcz25_0 : w21.cell? ⟨gb842, 0, none⟩ = some (.slice none 0 0) := (blk_cell BK842.out 0).trans rfl; have hfz25_0 := blk_frozen BK842.out 0) | ((with_reducible refine gate_callee (f := 71) rfl ?_); refine goesL_ (some 7) rfl rfl Try.func71 (by kernel_rfl) rfl #[.pointer (some ⟨g, 0, none⟩), .int .i64 16] rfl (by (try simp only [List.map_toArray, List.map_cons, List.map_nil]); first | done | rfl | (simp only [List.length_drop, List.length_take]; rfl)) ?_; (with_reducible refine (spec_l6Rd_pick.calls k g s0_0 t841 16 t843 t844 w0 _ ?side1 ?side2 A3.out).mono ?_); (case side1 => repeat (first | (with_reducible first | exact HI0.out | apply IsS116.alloc | apply IsS116.drewN | apply IsS116.drew | apply IsS116.set_1 | refine IsS116.far ?_ NB0_837.out _ | refine IsS116.far ?_ NB0_842.out _) | exact HI0.out)); (case side2 => repeat (first | (with_reducible first | exact HB.out | apply below_alloc | apply pw_below_drewN | apply below_drew1 | refine below_set ?_ (IsS116.ge HI0.out) | refine below_set ?_ GE837.out | refine below_set ?_ GE842.out) | exact HB.out)); rintro e w26 ⟨rfl, hi, hb, hk⟩; refine ⟨_, rfl, ?_⟩; have n0_ := am_ (KeepBut.blk hk (g' := gb837) (o := .cells #[.slice none 0 0] 35 (0, 0)) z92_11 NB837_0.out (by simp)); have n1_ := am_ (Kd.N_mono (Kd.N_keep (Kd.N_mono (ok := fun k_ => ((((w.heap.size ≤ k_)) ∧ (k_ ≠ gb837 ∧ k_ ≠ g)) ∧ k_ ≠ gb842)) (nu (Kd.N_mono (Kd.N_far (p := ⟨gb842, 0, none⟩) (Kd.N_mono HO840.out (fun k_ hk => (⟨hk, hk.2⟩ : _ ∧ k_ ≠ gb842))) (fun _ hk => hk.2) (.slice Ao22 t838.length co22)) (fun _ h_ => h_.1))) (fun k_ hk_ => (⟨hk_, hk_.1.2.2⟩ : _ ∧ k_ ≠ g))) hk (fun _ h => h.2)) (fun _ h => h.1)); have n2_ := am_ (KeepBut.blk hk (g' := gb842) (o := .cells #[.slice Ao22 t838.length co22] 35 (0, 0)) z92_12 NB842_0.out (by simp)); have n3_ := am_ (KeepBut.trans z92_8 hk (.inl rfl)); have n4_ := am_ (hb); have n5_ := am_ (hi); clear BK837 HO840 BK842 HK HB HI0; have BK837 := n0_; have HO840 := n1_; have BK842 := n2_; have HK := n3_; have HB := n4_; have HI0 := n5_; clear n0_ n1_ n2_ n3_ n4_ n5_; (try clear hb); (try clear hb2); (try clear hk); (try clear hi); have hcz27_0 : w26.cell? ⟨gb842, 0, none⟩ = some (.slice Ao22 t838.length co22) := (blk_cell BK842.out 0).trans rfl; have hfz27_0 := blk_frozen BK842.out 0; have hnb28 := NB837_0.out; have hnc28 := NB0_837.out; have hcz29_0 : w26.cell? ⟨gb837, 0, none⟩ = some (.slice none 0 0) := (blk_cell BK837.out 0).trans rfl; have hfz29_0 := blk_frozen BK837.out 0))
  refine bodyPost_ret (results_cell_row rfl _ _ gb837 35 #[.slice Ao22 t838.length co22] (0, 0) _ rfl z92_13 Try.underlying35 rfl (by kernel_rfl)) rfl ?_
  exact ⟨_, z92_1, nu (Kd.N_mono (Kd.N_far (p := ⟨gb837, 0, none⟩) (Kd.N_mono HO840.out (fun k_ hk => (⟨hk, hk.1.2.1⟩ : _ ∧ k_ ≠ gb837))) (fun _ hk => hk.2) (.slice Ao22 t838.length co22)) (fun _ hk => hk.1.1.1)), z92_9, z92_10, z92_8⟩

end Go.Proofs.Ytefkbmhkhpekjaa.PB

namespace Go.Proofs.Ytefkbmhkhpekjaa.PB
open Go.RowKit Go.Proofs.YtefkbmhkhpekjaaW.PrintWords Go.Proofs.YtefkbmhkhpekjaaW.PrintLast Go.Proofs.YtefkbmhkhpekjaaW.PrintMore
attribute [local go_sem] max2_int min2_int max_two min_two max_three min_three max_four min_four   -- for this text's walks alone
open Go.Proofs.YtefkbmhkhpekjaaMine
set_option linter.unusedVariables false
set_option linter.unusedSimpArgs false

theorem z101_1 {p : Prop} (h : p := by first | rfl | (simp; done) | (simp [*]; done)) : p := h
theorem z101_2 {p : Prop} (h : p := by first | (with_reducible assumption) | assumption) : p := h
theorem z101_3 {p : Prop} (h : p := by repeat (first | exact Drawn0.refl _ | apply Drawn0.step)) : p := h
/-! ### spec_l12Has: function 101 -/
def spec_l12Has.l0 : Nat → List Int → Int → Int → Option (Bool)
  | 0, _, _, _ => none
  | k + 1, x0, x1, x5 => if x5 < (x0.length : Int) then (if 0 ≤ x5 then (if (rd x0 x5) = x1 then (some true) else (spec_l12Has.l0 k x0 x1 (wrap64 (x5 + 1)))) else (none)) else (some false)
def spec_l12Has.f (k : Nat) (l0 : List Int) (a1 : Int) : Option (Bool) := spec_l12Has.l0 k l0 a1 0
theorem spec_l12Has.mono_l : ∀ k, (∀ y0 y1 y2, LeO (spec_l12Has.l0 k y0 y1 y2) (spec_l12Has.l0 (k + 1) y0 y1 y2))
  | 0 => fun _ _ _ r h => by simp [spec_l12Has.l0] at h
  | k + 1 => by
    have ih0 := spec_l12Has.mono_l k
    · intro y0 y1 y2
      unfold spec_l12Has.l0
      repeat' first
      | (with_reducible exact ih0 _ _ _)
      | (with_reducible exact LeO.refl _)
      | (with_reducible exact LeO.none _)
      | (with_reducible refine LeO.ite ?_ ?_)
      | (with_reducible refine LeO.bind ?_ (fun _ => ?_))
      | exact ih0 _ _ _
      | exact LeO.none _
      | refine LeO.ite ?_ ?_
      | refine LeO.bind ?_ (fun _ => ?_)
theorem spec_l12Has.mono : ∀ a0 a1 k, LeO (spec_l12Has.f k a0 a1) (spec_l12Has.f (k + 1) a0 a1) := by
  intro a0 a1 k
  have ih0 := spec_l12Has.mono_l k
  unfold spec_l12Has.f
  repeat' first
      | (with_reducible exact ih0 _ _ _)
      | (with_reducible exact LeO.refl _)
      | (with_reducible exact LeO.none _)
      | (with_reducible refine LeO.ite ?_ ?_)
      | (with_reducible refine LeO.bind ?_ (fun _ => ?_))
      | exact ih0 _ _ _
      | exact LeO.none _
      | refine LeO.ite ?_ ?_
      | refine LeO.bind ?_ (fun _ => ?_)
set_option maxHeartbeats 8000000 in
set_option maxRecDepth 100000 in
theorem spec_l12Has.calls (k : Nat) (A0 : Option Addr) (c0 : Nat) (l0 : List Int) (a1 : Int) (r : Bool) (w : World) (hr0 : Kd.C (Kd.int .i64) w A0 l0.length l0) (hc0 : l0.length ≤ c0) (h : spec_l12Has.f k l0 a1 = some r) :
  Calls Try.prog 101 #[.slice A0 l0.length c0, .int .i64 a1] w fun e w' => e = .returned (.bool r) ∧ Drawn0 w w' := by
 have HR0 := am_ hr0
 have HC0 := am_ hc0
 clear hr0 hc0
 have H : (spec_l12Has.l0 k l0 a1 0) = some r := h
 clear h
 have H' := am_ H
 clear H
 go_enter Try.func101, Try.ntmps101
 go_wp2
 go_loopg [5] k (fun kq v5 w' => ∃ (x5_1 : Int), v5 = .int .i64 x5_1 ∧ Aside0 (spec_l12Has.l0 kq l0 a1 x5_1 = some r) ∧ Aside0 (kq ≤ k) ∧ Drawn0 w w')
 case atStart => exact ⟨(0), z101_1, H', ⟨Nat.le_refl _⟩, z101_3⟩
 case round =>
  clear H'
  obtain ⟨x5_1, rfl, HA, HK1, ⟨m1, rfl⟩⟩ := hrel
  cases gk with
  | zero => exact absurd HA.out (by simp [spec_l12Has.l0])
  | succ k1 =>
   have H := HA.out
   clear HA
   simp only [spec_l12Has.l0] at H
   by_cases c3 : x5_1 < (l0.length : Int)
   ·rw [if_pos c3] at H
    have c3b0 : decide (x5_1 < (l0.length : Int)) = true := decide_eq_true c3
    clear c3
    by_cases c4 : 0 ≤ x5_1
    ·rw [if_pos c4] at H
     have c4b0 : decide (0 ≤ x5_1) = true := decide_eq_true c4
     clear c4
     by_cases c5 : (rd l0 x5_1) = a1
     ·rw [if_pos c5] at H
      have c5b0 : ((rd l0 x5_1) == a1) = true := beq_iff_eq.mpr c5
      have c5b1 : ((rd l0 x5_1) != a1) = false := bne_eq_false_iff_eq.mpr c5
      clear c5
      obtain rfl := Option.some.inj H
      have p972 : 0 ≤ (x5_1 : Int) := of_decide_eq_true z101_2
      have q972 : x5_1 < (l0.length : Int) := of_decide_eq_true z101_2
      obtain ⟨ad972, e972, hx972_0⟩ := Kd.at_int HR0.out x5_1 p972 q972
      cases e972
      replace p972 := eq_true p972
      replace q972 := eq_true q972
      go_wp2
      go_ret
      exact ⟨z101_1, z101_3⟩
     ·rw [if_neg c5] at H
      have c5b0 : ((rd l0 x5_1) == a1) = false := beq_eq_false_iff_ne.mpr c5
      have c5b1 : ((rd l0 x5_1) != a1) = true := bne_iff_ne.mpr c5
      have H' := am_ H
      clear H
      have p972 : 0 ≤ (x5_1 : Int) := of_decide_eq_true z101_2
      have q972 : x5_1 < (l0.length : Int) := of_decide_eq_true z101_2
      obtain ⟨ad972, e972, hx972_0⟩ := Kd.at_int HR0.out x5_1 p972 q972
      cases e972
      replace p972 := eq_true p972
      replace q972 := eq_true q972
      go_wp2
      go_roundg k1
      case measure => have := HK1.out; omega
      case rel => exact ⟨(wrap64 (x5_1 + 1)), z101_1, H', ⟨by have := HK1.out; omega⟩, z101_3⟩
    ·rw [if_neg c4] at H
     exact absurd H (by simp)
   ·rw [if_neg c3] at H
    have c3b0 : decide (x5_1 < (l0.length : Int)) = false := decide_eq_false c3
    clear c3
    obtain rfl := Option.some.inj H
    go_wp2
    go_ret
    exact ⟨z101_1, z101_3⟩

end Go.Proofs.Ytefkbmhkhpekjaa.PB

namespace Go.Proofs.Ytefkbmhkhpekjaa.PB
open Go.RowKit Go.Proofs.YtefkbmhkhpekjaaW.PrintWords Go.Proofs.YtefkbmhkhpekjaaW.PrintLast Go.Proofs.YtefkbmhkhpekjaaW.PrintMore
attribute [local go_sem] max2_int min2_int max_two min_two max_three min_three max_four min_four   -- for this text's walks alone
open Go.Proofs.YtefkbmhkhpekjaaMine
set_option linter.unusedVariables false
set_option linter.unusedSimpArgs false

theorem z50_1 {p : Prop} (h : p := by first | rfl | (simp; done) | (simp [*]; done)) : p := h
theorem z50_2 {p : Prop} (h : p := by first | (with_reducible assumption) | assumption) : p := h
theorem z50_3 {p : Prop} (h : p := by first | rfl | (simp [errW_none, errW_some] <;> rfl) | (simp [*, errW_none, errW_some] <;> rfl)) : p := h
theorem z50_4 {p : Prop} (h : p := by repeat (first | (with_reducible first | exact HB.out | apply below_alloc | apply pw_below_drewN | apply below_drew1) | exact HB.out)) : p := h
theorem z50_5 {p : Prop} (h : p := by repeat (first | (with_reducible first | exact HI1070.out | apply IsS116.alloc | apply IsS116.drewN | apply IsS116.drew | apply IsS116.set_1 | refine IsS116.far ?_ NB1070_1067.out _) | exact HI1070.out)) : p := h
theorem z50_6 {p : Prop} (h : p := by repeat (first | (with_reducible first | exact HB.out | apply below_alloc | apply pw_below_drewN | apply below_drew1 | refine below_set ?_ (IsS116.ge HI1070.out) | refine below_set ?_ GE1067.out) | exact HB.out)) : p := h
theorem z50_7 {p : Prop} (h : p := by repeat (first | (with_reducible first | exact HI1070.out | apply IsS116.alloc | apply IsS116.drewN | apply IsS116.drew | apply IsS116.set_1 | refine IsS116.far ?_ NB1070_1067.out _ | refine IsS116.far ?_ NB1070_1075.out _) | exact HI1070.out)) : p := h
theorem z50_8 {p : Prop} (h : p := by repeat (first | (with_reducible first | exact HB.out | apply below_alloc | apply pw_below_drewN | apply below_drew1 | refine below_set ?_ (IsS116.ge HI1070.out) | refine below_set ?_ GE1067.out | refine below_set ?_ GE1075.out) | exact HB.out)) : p := h
theorem z50_9 {p : Prop} (h : p := by (with_reducible repeat (first | refine blk_drewN ?_ _ | refine blk_drew ?_ | refine blk_alloc ?_ _)); refine blk_put (cs := #[.slice none 0 0]) ?_ 0 _ rfl; (with_reducible repeat (first | refine blk_drewN ?_ _ | refine blk_drew ?_ | refine blk_alloc ?_ _)); exact BK1067.out) : p := h
/-! ### spec_DrawTurnVals: function 50 -/
def spec_DrawTurnVals.l0 : Nat → List Int → Int → List Int → Int → List (List (S85)) → Option ((List (List (S85))) × List Int)
  | 0, _, _, _, _, _ => none
  | k + 1, x6, x7, x1071000, x1071001, x1076000 => if (x6.length : Int) ≤ 3 then ((spec_l6Rd_pick.f k x1071000 x1071001 3).bind fun bt1079 => (if x7 > 20 then ((spec_l12Has.f k x6 (wrap64 (1 + (Int.tmod x7 3)))).bind fun t1081 => (if t1081 = true then (spec_DrawTurnVals.l0 k x6 (wrap64 (x7 + 1)) x1071000 bt1079.2 x1076000) else (if x6.length < 17592186044416 then (spec_DrawTurnVals.l0 k (x6 ++ [wrap64 (1 + (Int.tmod x7 3))]) (wrap64 (x7 + 1)) x1071000 bt1079.2 x1076000) else (none)))) else ((spec_l12Has.f k x6 (wrap64 (1 + bt1079.1))).bind fun t1085 => (if t1085 = true then (spec_DrawTurnVals.l0 k x6 (wrap64 (x7 + 1)) x1071000 bt1079.2 x1076000) else (if x6.length < 17592186044416 then (spec_DrawTurnVals.l0 k (x6 ++ [wrap64 (1 + bt1079.1)]) (wrap64 (x7 + 1)) x1071000 bt1079.2 x1076000) else (none)))))) else ((spec_l6Rd_pick.f k x1071000 x1071001 16).bind fun bt1089 => (if bt1089.1 = 0 then ((spec_l6Rd_pick.f k x1071000 bt1089.2 (x6.length : Int)).bind fun bt1091 => ((spec_l6Rd_pick.f k x1071000 bt1091.2 4).bind fun bt1093 => (if 0 ≤ bt1091.1 then (if bt1091.1 < (x6.length : Int) then (some (x1076000, (x6.set (bt1091.1 : Int).toNat bt1093.1))) else (none)) else (none)))) else (some (x1076000, x6))))
def spec_DrawTurnVals.f (k : Nat) (l0 : List Int) : Option ((List (List (S85))) × List Int) := (spec_l6Open.f l0).bind fun bt1068 => ((spec_l71Any.f k bt1068.1 bt1068.2).bind fun bt1071 => (spec_DrawTurnVals.l0 k (([0] : List Int)) 0 bt1068.1 bt1071.2 bt1071.1))
theorem spec_DrawTurnVals.mono_l : ∀ k, (∀ y0 y1 y2 y3 y4, LeO (spec_DrawTurnVals.l0 k y0 y1 y2 y3 y4) (spec_DrawTurnVals.l0 (k + 1) y0 y1 y2 y3 y4))
  | 0 => fun _ _ _ _ _ r h => by simp [spec_DrawTurnVals.l0] at h
  | k + 1 => by
    have ih0 := spec_DrawTurnVals.mono_l k
    · intro y0 y1 y2 y3 y4
      unfold spec_DrawTurnVals.l0
      repeat' first
      | (with_reducible exact ih0 _ _ _ _ _)
      | (with_reducible exact spec_l12Has.mono _ _ _)
      | (with_reducible exact spec_l6Rd_pick.mono _ _ _ _)
      | (with_reducible exact spec_l71Any.mono _ _ _)
      | (with_reducible exact LeO.refl _)
      | (with_reducible exact LeO.none _)
      | (with_reducible refine LeO.ite ?_ ?_)
      | (with_reducible refine LeO.bind ?_ (fun _ => ?_))
      | exact ih0 _ _ _ _ _
      | exact spec_l12Has.mono _ _ _
      | exact spec_l6Rd_pick.mono _ _ _ _
      | exact spec_l71Any.mono _ _ _
      | exact LeO.none _
      | refine LeO.ite ?_ ?_
      | refine LeO.bind ?_ (fun _ => ?_)
theorem spec_DrawTurnVals.mono : ∀ a0 k, LeO (spec_DrawTurnVals.f k a0) (spec_DrawTurnVals.f (k + 1) a0) := by
  intro a0 k
  have ih0 := spec_DrawTurnVals.mono_l k
  unfold spec_DrawTurnVals.f
  repeat' first
      | (with_reducible exact ih0 _ _ _ _ _)
      | (with_reducible exact spec_l12Has.mono _ _ _)
      | (with_reducible exact spec_l6Rd_pick.mono _ _ _ _)
      | (with_reducible exact spec_l71Any.mono _ _ _)
      | (with_reducible exact LeO.refl _)
      | (with_reducible exact LeO.none _)
      | (with_reducible refine LeO.ite ?_ ?_)
      | (with_reducible refine LeO.bind ?_ (fun _ => ?_))
      | exact ih0 _ _ _ _ _
      | exact spec_l12Has.mono _ _ _
      | exact spec_l6Rd_pick.mono _ _ _ _
      | exact spec_l71Any.mono _ _ _
      | exact LeO.none _
      | refine LeO.ite ?_ ?_
      | refine LeO.bind ?_ (fun _ => ?_)
set_option maxHeartbeats 8000000 in
set_option maxRecDepth 100000 in
theorem spec_DrawTurnVals.calls (k : Nat) (A0 : Option Addr) (c0 : Nat) (l0 : List Int) (r1 : List (List (S85))) (r2 : List Int) (w : World) (hr0 : Kd.C (Kd.int .u8) w A0 l0.length l0) (hc0 : l0.length ≤ c0) (h : spec_DrawTurnVals.f k l0 = some (r1, r2)) :
  Calls Try.prog 50 #[.slice A0 l0.length c0] w fun e w' => ∃ v0_ v1_ : Value, e = .returned (.tuple #[.agg #[v0_], v1_]) ∧ Kd.N (Kd.slice 85 k85) 82 w' w.heap.size (fun k_ => (w.heap.size ≤ k_) ∧ some k_ ≠ (v1_ : Value).ownBlock) v0_ r1 ∧ Kd.R (Kd.int .i64) 3 w' w.heap.size (fun k_ => (w.heap.size ≤ k_)) v1_ r2 ∧ Below w.heap.size w w' := by
 have hu35 := Try.underlying35
 have HR0 := am_ hr0
 have HC0 := am_ hc0
 clear hr0 hc0
 have HB := am_ (Below.refl w.heap.size w)
 have H : ((spec_l6Open.f l0).bind fun bt1068 => ((spec_l71Any.f k bt1068.1 bt1068.2).bind fun bt1071 => (spec_DrawTurnVals.l0 k (([0] : List Int)) 0 bt1068.1 bt1071.2 bt1071.1))) = some (r1, r2) := h
 clear h
 replace H := Option.bind_eq_some_iff.mp H
 obtain ⟨⟨t1068, t1069⟩, A20, H⟩ := H
 replace H : ((spec_l71Any.f k t1068 t1069).bind fun bt1071 => (spec_DrawTurnVals.l0 k (([0] : List Int)) 0 t1068 bt1071.2 bt1071.1)) = some (r1, r2) := H
 have A2 := am_ A20
 clear A20
 replace H := Option.bind_eq_some_iff.mp H
 obtain ⟨⟨t1071, t1074⟩, A30, H⟩ := H
 replace H : (spec_DrawTurnVals.l0 k (([0] : List Int)) 0 t1068 t1074 t1071) = some (r1, r2) := H
 have A3 := am_ A30
 clear A30
 obtain ⟨y1076, hy1076⟩ : ∃ y_ : List Int, y_ = (([0] : List Int)) := ⟨_, rfl⟩
 replace H : (spec_DrawTurnVals.l0 k y1076 0 t1068 t1074 t1071) = some (r1, r2) := by first | (rw [hy1076]; with_reducible exact H) | (have H2_ := (Option.bind_some _ _).symm.trans H; rw [hy1076]; with_reducible exact H2_) | (have H2_ := (Option.bind_some _ _).symm.trans H; with_reducible exact H2_) | with_reducible exact H | (rw [hy1076]; exact H) | exact H
 have Ny1076 := am_ hy1076
 clear hy1076
 have H' := am_ H
 clear H
 go_enter Try.func50, Try.ntmps50
 go_wp2_with (first | ((with_reducible refine gate_dst (N := 2) rfl ?_); refine box_event ?hg (N := 2) ?hd (cs := #[.slice none 0 0]) (t := 35) ?hr ?_; (case hd => rfl); (case hg => rfl); (case hr => first | (go_simp; done) | (go_simp; rfl)); intro gb1067 hg w4 hbox hb; have n0_ := am_ (below_step z50_4 hb); have n1_ := am_ (hbox); have n2_ := am_ (by rw [hg]; exact (below_size z50_4) : w.heap.size ≤ gb1067); have n3_ := am_ (by rw [hg]; exact (below_size z50_4) : w.heap.size ≤ gb1067); clear HB; have HB := n0_; have BK1067 := n1_; have GW1067 := n2_; have GE1067 := n3_; clear n0_ n1_ n2_ n3_; clear hb hbox hg) | ((with_reducible refine gate_callee (f := 70) rfl ?_); refine goesL_ (some 10) rfl rfl Try.func70 (by kernel_rfl) rfl #[.slice A0 l0.length c0] rfl (by (try simp only [List.map_toArray, List.map_cons, List.map_nil]); first | done | rfl | (simp only [List.length_drop, List.length_take]; rfl)) ?_; (with_reducible refine (spec_l6Open.calls _ _ l0 t1068 t1069 w _ ?side1 ?side2 ?side3 A2.out).mono ?_); (case side1 => repeat (first | (with_reducible first | exact HB.out | apply below_alloc | apply pw_below_drewN | apply below_drew1 | refine below_set ?_ GE1067.out) | exact HB.out)); (case side2 => exact HR0.out); (case side3 => exact HC0.out); rintro e w5 ⟨g1070, rfl, hi, hb, hb2⟩; refine ⟨_, rfl, ?_⟩; have n0_ := am_ (blk_below (bu BK1067.out) hb2); have n1_ := am_ (hb); have n2_ := am_ (hi); have n3_ := am_ (IsS116.ne_blk hi (blk_below (bu BK1067.out) hb2) (by decide)); have n4_ := am_ (Ne.symm (IsS116.ne_blk hi (blk_below (bu BK1067.out) hb2) (by decide))); clear BK1067 HB; have BK1067 := n0_; have HB := n1_; have HI1070 := n2_; have NB1070_1067 := n3_; have NB1067_1070 := n4_; clear n0_ n1_ n2_ n3_ n4_; (try clear hb); (try clear hb2); (try clear hk); (try clear hi)) | ((with_reducible refine gate_callee (f := 92) rfl ?_); refine goesL_ (some 12) rfl rfl Try.func92 (by kernel_rfl) rfl #[.pointer (some ⟨g1070, 0, none⟩)] rfl (by (try simp only [List.map_toArray, List.map_cons, List.map_nil]); first | done | rfl | (simp only [List.length_drop, List.length_take]; rfl)) ?_; (with_reducible refine (spec_l71Any.calls k g1070 t1068 t1069 t1071 t1074 w _ ?side1 ?side2 A3.out).mono ?_); (case side1 => repeat (first | (with_reducible first | exact HI1070.out | apply IsS116.alloc | apply IsS116.drewN | apply IsS116.drew | apply IsS116.set_1 | refine IsS116.far ?_ NB1070_1067.out _) | exact HI1070.out)); (case side2 => repeat (first | (with_reducible first | exact HB.out | apply below_alloc | apply pw_below_drewN | apply below_drew1 | refine below_set ?_ (IsS116.ge HI1070.out) | refine below_set ?_ GE1067.out) | exact HB.out)); rintro e w6 ⟨v1072, rfl, ho0, hi, hb, hk⟩; refine ⟨_, rfl, ?_⟩; have n0_ := am_ (KeepBut.blk hk (bu BK1067.out) NB1067_1070.out (by simp)); have n1_ := am_ (Kd.N_lower (Kd.N_mono (ok' := fun k_ => (w.heap.size ≤ k_) ∧ k_ ≠ gb1067 ∧ k_ ≠ g1070) ho0 (fun k_ hk_ => ⟨(Nat.le_trans (below_size z50_6) hk_), (Kd.freshB (bu BK1067.out) k_ hk_), (IsS116.fresh z50_5 k_ hk_)⟩)) (below_size z50_6)); have n2_ := am_ (hb); have n3_ := am_ (hi); clear BK1067 HB HI1070; have BK1067 := n0_; have HO1073 := n1_; have HB := n2_; have HI1070 := n3_; clear n0_ n1_ n2_ n3_; (try clear hb); (try clear hb2); (try clear hk); (try clear hi); (try clear ho0)) | ((with_reducible refine gate_dst (N := 5) rfl ?_); refine box_event ?hg (N := 5) ?hd (cs := #[.slice none 0 0]) (t := 35) ?hr ?_; (case hd => rfl); (case hg => rfl); (case hr => first | (go_simp; done) | (go_simp; rfl)); intro gb1075 hg w7 hbox hb; have n0_ := am_ (Kd.N_below (Kd.N_elderB (nu HO1073.out) gb1075 (Nat.le_of_eq hg.symm)) hb); have n1_ := am_ (blk_below (bu BK1067.out) hb); have n2_ := am_ (IsS116.below z50_5 hb); have n3_ := am_ (below_step z50_6 hb); have n4_ := am_ (hbox); have n5_ := am_ (by rw [hg]; exact (below_size z50_6) : w.heap.size ≤ gb1075); have n6_ := am_ (by rw [hg]; exact (below_size z50_6) : w.heap.size ≤ gb1075); have n7_ := am_ (by rw [hg]; exact Nat.ne_of_lt (blk_lt (bu BK1067.out)) : gb1067 ≠ gb1075); have n8_ := am_ (by rw [hg]; exact Nat.ne_of_gt (blk_lt (bu BK1067.out)) : gb1075 ≠ gb1067); have n9_ := am_ (by rw [hg]; exact Nat.ne_of_lt (IsS116.lt (show IsS116 w _ g1070 t1068 t1074 from by repeat (first | (with_reducible first | exact HI1070.out | apply IsS116.alloc | apply IsS116.drewN | apply IsS116.drew | apply IsS116.set_1 | refine IsS116.far ?_ NB1070_1067.out _) | exact HI1070.out))) : g1070 ≠ gb1075); have n10_ := am_ (by rw [hg]; exact Nat.ne_of_gt (IsS116.lt (show IsS116 w _ g1070 t1068 t1074 from by repeat (first | (with_reducible first | exact HI1070.out | apply IsS116.alloc | apply IsS116.drewN | apply IsS116.drew | apply IsS116.set_1 | refine IsS116.far ?_ NB1070_1067.out _) | exact HI1070.out))) : gb1075 ≠ g1070); clear HO1073 BK1067 HI1070 HB; have HO1073 := n0_; have BK1067 := n1_; have HI1070 := n2_; have HB := n3_; have BK1075 := n4_; have GW1075 := n5_; have GE1075 := n6_; have NB1067_1075 := n7_; have NB1075_1067 := n8_; have NB1070_1075 := n9_; have NB1075_1070 := n10_; clear n0_ n1_ n2_ n3_ n4_ n5_ n6_ n7_ n8_ n9_ n10_; clear hb hbox hg; obtain ⟨Ao8, co8, eo8⟩ := Kd.N_slice HO1073.out; subst eo8; have hnb9 := NB1075_1067.out; have hnc9 := NB1067_1075.out; have hnb10 := NB1075_1070.out; have hnc10 := NB1070_1075.out; have hcz11_0 : w7.cell? ⟨gb1075, 0, none⟩ = some (.slice none 0 0) := (blk_cell BK1075.out 0).trans rfl; have hfz11_0 := blk_frozen BK1075.out 0) | ((with_reducible refine gate_dst (N := 13) rfl ?_); refine Kd.R_lit (Kd.int .i64) _ 3 ?hg (N := 13) ?hd (xs := ([0] : List Int)) (inner := [.int .i64 0]) (ok := fun _ => True) (okp := fun _ => True) ?hr ?hp (fun _ hk => hk) trivial (Below.refl _ _) (Nat.le_refl _) (by simp) ?_; (case hd => rfl); (case hg => rfl); (case hr => first | (go_simp; done) | (go_simp; rfl)); (case hp => exact (Reps.one (show Kd.M (Kd.int .i64) _ _ _ 0 [.int .i64 0] from rfl) (Reps.none _ _))); intro v1077 w12 ho13 hb hg_ hnew_; clear hg_ hnew_; (first | rw [← Ny1076.out] at ho13 | (simp only [Int.reduceToNat] at ho13; rw [← Ny1076.out] at ho13)); have n0_ := am_ (Kd.N_elder' (nu (Kd.N_mono (Kd.N_far (p := ⟨gb1075, 0, none⟩) (Kd.N_mono HO1073.out (fun k_ hk => (⟨hk, hk.2⟩ : _ ∧ k_ ≠ gb1075))) (fun _ hk => hk.2) (.slice Ao8 t1071.length co8)) (fun _ h_ => h_.1))) (Kd.R_base ho13) hb); have n1_ := am_ (Kd.R_lower (Kd.R_newM (M := fun k_ => (w.heap.size ≤ k_)) ho13 (below_size z50_8) (fun k_ h_ => h_)) (below_size z50_8)); have n2_ := am_ (blk_below (g := gb1067) (o := .cells #[.slice none 0 0] 35 (0, 0)) (by (with_reducible repeat (first | refine blk_drewN ?_ _ | refine blk_drew ?_ | refine blk_alloc ?_ _)); refine blk_far ?_ NB1067_1075.out _; (with_reducible repeat (first | refine blk_drewN ?_ _ | refine blk_drew ?_ | refine blk_alloc ?_ _)); exact BK1067.out) hb); have n3_ := am_ (IsS116.below (show IsS116 w (w7.setCell ⟨gb1075, 0, none⟩ (.slice Ao8 t1071.length co8)) g1070 t1068 t1074 from by repeat (first | (with_reducible first | exact HI1070.out | apply IsS116.alloc | apply IsS116.drewN | apply IsS116.drew | apply IsS116.set_1 | refine IsS116.far ?_ NB1070_1067.out _ | refine IsS116.far ?_ NB1070_1075.out _) | exact HI1070.out)) hb); have n4_ := am_ (blk_below (g := gb1075) (o := .cells #[.slice Ao8 t1071.length co8] 35 (0, 0)) (by (with_reducible repeat (first | refine blk_drewN ?_ _ | refine blk_drew ?_ | refine blk_alloc ?_ _)); refine blk_put (cs := #[.slice none 0 0]) ?_ 0 _ rfl; (with_reducible repeat (first | refine blk_drewN ?_ _ | refine blk_drew ?_ | refine blk_alloc ?_ _)); exact BK1075.out) hb); have n5_ := am_ (below_step z50_8 hb); clear HO1073 BK1067 HI1070 BK1075 HB; have HO1073 := n0_; have HO1078 := n1_; have BK1067 := n2_; have HI1070 := n3_; have BK1075 := n4_; have HB := n5_; clear n0_ n1_ n2_ n3_ n4_ n5_; clear hb ho13))
 go_loopg [6, 7] k (fun kq v6 v7 w' => ∃ (x6_1 : List Int) (x7_1 : Int) (x1071001_1 : Int), v7 = .int .i64 x7_1 ∧ Aside0 (spec_DrawTurnVals.l0 kq x6_1 x7_1 t1068 x1071001_1 t1071 = some (r1, r2)) ∧ Aside0 (kq ≤ k) ∧ Aside0 (Kd.R (Kd.int .i64) 3 w' w.heap.size (fun k_ => (w.heap.size ≤ k_)) v6 x6_1) ∧ Aside0 (Kd.N (Kd.slice 85 k85) 82 w' w.heap.size (fun k_ => (w.heap.size ≤ k_) ∧ some k_ ≠ (v6 : Value).ownBlock ∧ k_ ≠ gb1067 ∧ k_ ≠ gb1075 ∧ k_ ≠ g1070) (.slice Ao8 t1071.length co8) t1071) ∧ Aside0 (w'.heap[gb1067]? = some (.cells #[(.slice none 0 0)] 35 (0, 0))) ∧ Aside0 (w'.heap[gb1075]? = some (.cells #[(.slice Ao8 t1071.length co8)] 35 (0, 0))) ∧ Aside0 (IsS116 w w' g1070 t1068 x1071001_1) ∧ Aside0 (Below w.heap.size w w'))
 case atStart => exact ⟨(y1076), (0), (t1074), z50_1, H', ⟨Nat.le_refl _⟩, ⟨ru (Kd.R_mono HO1078.out (fun _ hk => hk.1))⟩, ⟨nu (Kd.N_mono HO1073.out (fun _ hk => ⟨hk.1.1.1, ⟨hk.2, ⟨hk.1.1.2.1, ⟨hk.1.2, hk.1.1.2.2⟩⟩⟩⟩))⟩, ⟨bu BK1067.out⟩, ⟨bu BK1075.out⟩, ⟨z50_7⟩, ⟨z50_8⟩⟩
 case round =>
  clear H'
  obtain ⟨x6_1, x7_1, x1071001_1, rfl, HA, HK1, HO_6, HO_1076000, BK1067, BK1075, HI1070, HB⟩ := hrel
  cases gk with
  | zero => exact absurd HA.out (by simp [spec_DrawTurnVals.l0])
  | succ k1 =>
   have H := HA.out
   clear HA
   simp only [spec_DrawTurnVals.l0] at H
   by_cases c14 : (x6_1.length : Int) ≤ 3
   ·rw [if_pos c14] at H
    have c14b0 : decide ((x6_1.length : Int) ≤ 3) = true := decide_eq_true c14
    have c14b1 : decide (x6_1.length ≤ 3) = true := decide_eq_true (by omega)
    clear c14
    replace H := Option.bind_eq_some_iff.mp H
    obtain ⟨⟨t1079, t1080⟩, A150, H⟩ := H
    replace H : (if x7_1 > 20 then ((spec_l12Has.f k1 x6_1 (wrap64 (1 + (Int.tmod x7_1 3)))).bind fun t1081 => (if t1081 = true then (spec_DrawTurnVals.l0 k1 x6_1 (wrap64 (x7_1 + 1)) t1068 t1080 t1071) else (if x6_1.length < 17592186044416 then (spec_DrawTurnVals.l0 k1 (x6_1 ++ [wrap64 (1 + (Int.tmod x7_1 3))]) (wrap64 (x7_1 + 1)) t1068 t1080 t1071) else (none)))) else ((spec_l12Has.f k1 x6_1 (wrap64 (1 + t1079))).bind fun t1085 => (if t1085 = true then (spec_DrawTurnVals.l0 k1 x6_1 (wrap64 (x7_1 + 1)) t1068 t1080 t1071) else (if x6_1.length < 17592186044416 then (spec_DrawTurnVals.l0 k1 (x6_1 ++ [wrap64 (1 + t1079)]) (wrap64 (x7_1 + 1)) t1068 t1080 t1071) else (none))))) = some (r1, r2) := H
    have A15 := am_ A150
    clear A150
    by_cases c16 : x7_1 > 20
    ·rw [if_pos c16] at H
     have c16b0 : decide (20 < x7_1) = true := decide_eq_true c16
     clear c16
     replace H := Option.bind_eq_some_iff.mp H
     obtain ⟨t1081, A170, H⟩ := H
     replace H : (if t1081 = true then (spec_DrawTurnVals.l0 k1 x6_1 (wrap64 (x7_1 + 1)) t1068 t1080 t1071) else (if x6_1.length < 17592186044416 then (spec_DrawTurnVals.l0 k1 (x6_1 ++ [wrap64 (1 + (Int.tmod x7_1 3))]) (wrap64 (x7_1 + 1)) t1068 t1080 t1071) else (none))) = some (r1, r2) := H
     have A17 := am_ A170
     clear A170
     by_cases c18 : t1081 = true
     ·subst c18
      have H1 : (spec_DrawTurnVals.l0 k1 x6_1 (wrap64 (x7_1 + 1)) t1068 t1080 t1071) = some (r1, r2) := by rw [if_pos rfl] at H; exact H
      clear H
      have H := H1
      clear H1
      have H' := am_ H
      clear H
      obtain ⟨Ao19, co19, eo19⟩ := Kd.R_slice HO_6.out
      subst eo19
      go_wp2_with (first | ((with_reducible refine gate_callee (f := 71) rfl ?_); refine goesL_ (some 20) rfl rfl Try.func71 (by kernel_rfl) rfl #[.pointer (some ⟨g1070, 0, none⟩), .int .i64 3] rfl (by (try simp only [List.map_toArray, List.map_cons, List.map_nil]); first | done | rfl | (simp only [List.length_drop, List.length_take]; rfl)) ?_; (with_reducible refine (spec_l6Rd_pick.calls k1 g1070 t1068 x1071001_1 3 t1079 t1080 w _ ?side1 ?side2 A15.out).mono ?_); (case side1 => repeat (first | (with_reducible first | exact HI1070.out | apply IsS116.alloc | apply IsS116.drewN | apply IsS116.drew | apply IsS116.set_1 | refine IsS116.far ?_ NB1070_1067.out _ | refine IsS116.far ?_ NB1070_1075.out _) | exact HI1070.out)); (case side2 => repeat (first | (with_reducible first | exact HB.out | apply below_alloc | apply pw_below_drewN | apply below_drew1 | refine below_set ?_ (IsS116.ge HI1070.out) | refine below_set ?_ GE1067.out | refine below_set ?_ GE1075.out) | exact HB.out)); rintro e w20 ⟨rfl, hi, hb, hk⟩; refine ⟨_, rfl, ?_⟩; have n0_ := am_ (Kd.R_mono (Kd.R_keep (IsS116.apart (show IsS116 w _ g1070 t1068 x1071001_1 from by repeat (first | (with_reducible first | exact HI1070.out | apply IsS116.alloc | apply IsS116.drewN | apply IsS116.drew | apply IsS116.set_1 | refine IsS116.far ?_ NB1070_1067.out _ | refine IsS116.far ?_ NB1070_1075.out _) | exact HI1070.out)) (ru HO_6.out) (by decide)) hk (fun _ h => h.2)) (fun _ h => h.1)); have n1_ := am_ (Kd.N_mono (Kd.N_keep (Kd.N_mono (ok := fun k_ => (((w.heap.size ≤ k_)) ∧ (some k_ ≠ (.slice Ao19 x6_1.length co19 : Value).ownBlock ∧ (k_ ≠ gb1067 ∧ (k_ ≠ gb1075 ∧ k_ ≠ g1070))))) (nu HO_1076000.out) (fun k_ hk_ => (⟨hk_, hk_.2.2.2.2⟩ : _ ∧ k_ ≠ g1070))) hk (fun _ h => h.2)) (fun _ h => h.1)); have n2_ := am_ (KeepBut.blk hk (bu BK1067.out) NB1067_1070.out (by simp)); have n3_ := am_ (KeepBut.blk hk (bu BK1075.out) NB1075_1070.out (by simp)); have n4_ := am_ (hb); have n5_ := am_ (hi); clear HO_6 HO_1076000 BK1067 BK1075 HB HI1070; have HO_6 := n0_; have HO_1076000 := n1_; have BK1067 := n2_; have BK1075 := n3_; have HB := n4_; have HI1070 := n5_; clear n0_ n1_ n2_ n3_ n4_ n5_; (try clear hb); (try clear hb2); (try clear hk); (try clear hi)) | ((with_reducible refine gate_callee (f := 101) rfl ?_); refine goesL_ (some 29) rfl rfl Try.func101 (by kernel_rfl) rfl #[.slice Ao19 x6_1.length co19, .int .i64 (wrap64 (1 + (Int.tmod x7_1 3)))] rfl (by (try simp only [List.map_toArray, List.map_cons, List.map_nil]); first | done | rfl | (simp only [List.length_drop, List.length_take]; rfl)) ?_; (with_reducible refine (spec_l12Has.calls k1 _ _ x6_1 (wrap64 (1 + (Int.tmod x7_1 3))) true _ ?side1 ?side2 A17.out).mono ?_); (case side1 => repeat (first | exact (Kd.R_reads' HO_6.out).2.2 | (with_reducible refine Kd.C_alloc ?_ _) | (with_reducible refine Kd.C_drewN ?_ _) | (with_reducible refine Kd.C_drew ?_))); (case side2 => exact (Kd.R_reads' HO_6.out).2.1); rintro e w' ⟨rfl, ⟨nd, rfl⟩⟩; refine ⟨_, rfl, ?_⟩))
      go_roundg k1
      case measure => have := HK1.out; omega
      case rel => exact ⟨(x6_1), (wrap64 (x7_1 + 1)), (t1080), z50_1, H', ⟨by have := HK1.out; omega⟩, ⟨ru HO_6.out⟩, ⟨nu HO_1076000.out⟩, ⟨bu BK1067.out⟩, ⟨bu BK1075.out⟩, ⟨z50_7⟩, ⟨z50_8⟩⟩
     ·replace c18 := Bool.eq_false_iff.mpr c18
      subst c18
      have H1 : (if x6_1.length < 17592186044416 then (spec_DrawTurnVals.l0 k1 (x6_1 ++ [wrap64 (1 + (Int.tmod x7_1 3))]) (wrap64 (x7_1 + 1)) t1068 t1080 t1071) else (none)) = some (r1, r2) := by rw [if_neg (show ¬ (false = true) by decide)] at H; exact H
      clear H
      have H := H1
      clear H1
      by_cases c21 : x6_1.length < 17592186044416
      ·rw [if_pos c21] at H
       have LMc21 := am_ c21
       clear c21
       obtain ⟨y1082, hy1082⟩ : ∃ y_ : List Int, y_ = (x6_1 ++ [wrap64 (1 + (Int.tmod x7_1 3))]) := ⟨_, rfl⟩
       replace H : (spec_DrawTurnVals.l0 k1 y1082 (wrap64 (x7_1 + 1)) t1068 t1080 t1071) = some (r1, r2) := by first | (rw [hy1082]; with_reducible exact H) | (have H2_ := (Option.bind_some _ _).symm.trans H; rw [hy1082]; with_reducible exact H2_) | (have H2_ := (Option.bind_some _ _).symm.trans H; with_reducible exact H2_) | with_reducible exact H | (rw [hy1082]; exact H) | exact H
       have Ny1082 := am_ hy1082
       clear hy1082
       have H' := am_ H
       clear H
       obtain ⟨Ao22, co22, eo22⟩ := Kd.R_slice HO_6.out
       subst eo22
       go_wp2_with (first | ((with_reducible refine gate_callee (f := 71) rfl ?_); refine goesL_ (some 20) rfl rfl Try.func71 (by kernel_rfl) rfl #[.pointer (some ⟨g1070, 0, none⟩), .int .i64 3] rfl (by (try simp only [List.map_toArray, List.map_cons, List.map_nil]); first | done | rfl | (simp only [List.length_drop, List.length_take]; rfl)) ?_; (with_reducible refine (spec_l6Rd_pick.calls k1 g1070 t1068 x1071001_1 3 t1079 t1080 w _ ?side1 ?side2 A15.out).mono ?_); (case side1 => repeat (first | (with_reducible first | exact HI1070.out | apply IsS116.alloc | apply IsS116.drewN | apply IsS116.drew | apply IsS116.set_1 | refine IsS116.far ?_ NB1070_1067.out _ | refine IsS116.far ?_ NB1070_1075.out _) | exact HI1070.out)); (case side2 => repeat (first | (with_reducible first | exact HB.out | apply below_alloc | apply pw_below_drewN | apply below_drew1 | refine below_set ?_ (IsS116.ge HI1070.out) | refine below_set ?_ GE1067.out | refine below_set ?_ GE1075.out) | exact HB.out)); rintro e w23 ⟨rfl, hi, hb, hk⟩; refine ⟨_, rfl, ?_⟩; have n0_ := am_ (Kd.R_mono (Kd.R_keep (IsS116.apart (show IsS116 w _ g1070 t1068 x1071001_1 from by repeat (first | (with_reducible first | exact HI1070.out | apply IsS116.alloc | apply IsS116.drewN | apply IsS116.drew | apply IsS116.set_1 | refine IsS116.far ?_ NB1070_1067.out _ | refine IsS116.far ?_ NB1070_1075.out _) | exact HI1070.out)) (ru HO_6.out) (by decide)) hk (fun _ h => h.2)) (fun _ h => h.1)); have n1_ := am_ (Kd.N_mono (Kd.N_keep (Kd.N_mono (ok := fun k_ => (((w.heap.size ≤ k_)) ∧ (some k_ ≠ (.slice Ao22 x6_1.length co22 : Value).ownBlock ∧ (k_ ≠ gb1067 ∧ (k_ ≠ gb1075 ∧ k_ ≠ g1070))))) (nu HO_1076000.out) (fun k_ hk_ => (⟨hk_, hk_.2.2.2.2⟩ : _ ∧ k_ ≠ g1070))) hk (fun _ h => h.2)) (fun _ h => h.1)); have n2_ := am_ (KeepBut.blk hk (bu BK1067.out) NB1067_1070.out (by simp)); have n3_ := am_ (KeepBut.blk hk (bu BK1075.out) NB1075_1070.out (by simp)); have n4_ := am_ (hb); have n5_ := am_ (hi); clear HO_6 HO_1076000 BK1067 BK1075 HB HI1070; have HO_6 := n0_; have HO_1076000 := n1_; have BK1067 := n2_; have BK1075 := n3_; have HB := n4_; have HI1070 := n5_; clear n0_ n1_ n2_ n3_ n4_ n5_; (try clear hb); (try clear hb2); (try clear hk); (try clear hi)) | ((with_reducible refine gate_callee (f := 101) rfl ?_); refine goesL_ (some 29) rfl rfl Try.func101 (by kernel_rfl) rfl #[.slice Ao22 x6_1.length co22, .int .i64 (wrap64 (1 + (Int.tmod x7_1 3)))] rfl (by (try simp only [List.map_toArray, List.map_cons, List.map_nil]); first | done | rfl | (simp only [List.length_drop, List.length_take]; rfl)) ?_; (with_reducible refine (spec_l12Has.calls k1 _ _ x6_1 (wrap64 (1 + (Int.tmod x7_1 3))) false _ ?side1 ?side2 A17.out).mono ?_); (case side1 => repeat (first | exact (Kd.R_reads' HO_6.out).2.2 | (with_reducible refine Kd.C_alloc ?_ _) | (with_reducible refine Kd.C_drewN ?_ _) | (with_reducible refine Kd.C_drew ?_))); (case side2 => exact (Kd.R_reads' HO_6.out).2.1); rintro e w' ⟨rfl, ⟨nd, rfl⟩⟩; refine ⟨_, rfl, ?_⟩) | ((with_reducible refine gate_builtin (b := .append) (xs := #[.tmp 31, .tmp 33]) rfl ?_); at_builtin; refine Kd.R_append (Kd.int .i64) (w0 := w) w.heap.size rfl (.tmp 31) (.tmp 33) 22 3 (.int .i64 0) 8 rfl Try.underlying22 info3 rfl (by decide) (by omega) (.slice Ao22 x6_1.length co22) x6_1 (wrap64 (1 + (Int.tmod x7_1 3))) [.int .i64 (wrap64 (1 + (Int.tmod x7_1 3)))] (fun k_ => (w.heap.size ≤ k_)) (fun _ => False) rfl rfl ?aP (fun _ hk => hk.elim) ?aF ?aO ?aB ?aS ?aL ?_; (case aP => exact rfl); (case aB => exact z50_8); (case aF => exact (fun k_ hk => (Nat.le_trans (below_size z50_8) hk))); (case aO => exact (ru HO_6.out)); (case aS => exact (below_size z50_8)); (case aL => have := LMc21.out; omega); intro v1083 w24 ho hb hg hat; rw [← Ny1082.out] at ho; have n0_ := am_ (Kd.N_afterv (ok := (fun k_ => (w.heap.size ≤ k_) ∧ k_ ≠ gb1067 ∧ k_ ≠ gb1075 ∧ k_ ≠ g1070)) (nu (Kd.N_mono HO_1076000.out (fun _ hk => ⟨⟨hk.1, ⟨hk.2.2.1, ⟨hk.2.2.2.1, hk.2.2.2.2⟩⟩⟩, hk.2.1⟩))) hg hat); have n1_ := am_ (blk_grown (bu BK1067.out) hg (Kd.R_ne HO_6.out BK1067.out (by decide))); have n2_ := am_ (blk_grown (bu BK1075.out) hg (Kd.R_ne HO_6.out BK1075.out (by decide))); have n3_ := am_ (IsS116.grown z50_7 hg (IsS116.own_ne HI1070.out HO_6.out (by decide))); have n4_ := am_ (hb); have n5_ := am_ (ho); clear HO_1076000 BK1067 BK1075 HI1070 HB HO_6; have HO_1076000 := n0_; have BK1067 := n1_; have BK1075 := n2_; have HI1070 := n3_; have HB := n4_; have HO1084 := n5_; clear n0_ n1_ n2_ n3_ n4_ n5_; clear ho hb hg hat))
       go_roundg k1
       case measure => have := HK1.out; omega
       case rel => exact ⟨(y1082), (wrap64 (x7_1 + 1)), (t1080), z50_1, H', ⟨by have := HK1.out; omega⟩, ⟨ru HO1084.out⟩, ⟨nu (Kd.N_mono HO_1076000.out (fun _ hk => ⟨hk.1.1, ⟨hk.2, ⟨hk.1.2.1, ⟨hk.1.2.2.1, hk.1.2.2.2⟩⟩⟩⟩))⟩, ⟨bu BK1067.out⟩, ⟨bu BK1075.out⟩, ⟨z50_7⟩, ⟨z50_8⟩⟩
      ·rw [if_neg c21] at H
       exact absurd H (by simp)
    ·rw [if_neg c16] at H
     have c16b0 : decide (20 < x7_1) = false := decide_eq_false c16
     clear c16
     replace H := Option.bind_eq_some_iff.mp H
     obtain ⟨t1085, A250, H⟩ := H
     replace H : (if t1085 = true then (spec_DrawTurnVals.l0 k1 x6_1 (wrap64 (x7_1 + 1)) t1068 t1080 t1071) else (if x6_1.length < 17592186044416 then (spec_DrawTurnVals.l0 k1 (x6_1 ++ [wrap64 (1 + t1079)]) (wrap64 (x7_1 + 1)) t1068 t1080 t1071) else (none))) = some (r1, r2) := H
     have A25 := am_ A250
     clear A250
     by_cases c26 : t1085 = true
     ·subst c26
      have H1 : (spec_DrawTurnVals.l0 k1 x6_1 (wrap64 (x7_1 + 1)) t1068 t1080 t1071) = some (r1, r2) := by rw [if_pos rfl] at H; exact H
      clear H
      have H := H1
      clear H1
      have H' := am_ H
      clear H
      obtain ⟨Ao27, co27, eo27⟩ := Kd.R_slice HO_6.out
      subst eo27
      go_wp2_with (first | ((with_reducible refine gate_callee (f := 71) rfl ?_); refine goesL_ (some 20) rfl rfl Try.func71 (by kernel_rfl) rfl #[.pointer (some ⟨g1070, 0, none⟩), .int .i64 3] rfl (by (try simp only [List.map_toArray, List.map_cons, List.map_nil]); first | done | rfl | (simp only [List.length_drop, List.length_take]; rfl)) ?_; (with_reducible refine (spec_l6Rd_pick.calls k1 g1070 t1068 x1071001_1 3 t1079 t1080 w _ ?side1 ?side2 A15.out).mono ?_); (case side1 => repeat (first | (with_reducible first | exact HI1070.out | apply IsS116.alloc | apply IsS116.drewN | apply IsS116.drew | apply IsS116.set_1 | refine IsS116.far ?_ NB1070_1067.out _ | refine IsS116.far ?_ NB1070_1075.out _) | exact HI1070.out)); (case side2 => repeat (first | (with_reducible first | exact HB.out | apply below_alloc | apply pw_below_drewN | apply below_drew1 | refine below_set ?_ (IsS116.ge HI1070.out) | refine below_set ?_ GE1067.out | refine below_set ?_ GE1075.out) | exact HB.out)); rintro e w28 ⟨rfl, hi, hb, hk⟩; refine ⟨_, rfl, ?_⟩; have n0_ := am_ (Kd.R_mono (Kd.R_keep (IsS116.apart (show IsS116 w _ g1070 t1068 x1071001_1 from by repeat (first | (with_reducible first | exact HI1070.out | apply IsS116.alloc | apply IsS116.drewN | apply IsS116.drew | apply IsS116.set_1 | refine IsS116.far ?_ NB1070_1067.out _ | refine IsS116.far ?_ NB1070_1075.out _) | exact HI1070.out)) (ru HO_6.out) (by decide)) hk (fun _ h => h.2)) (fun _ h => h.1)); have n1_ := am_ (Kd.N_mono (Kd.N_keep (Kd.N_mono (ok := fun k_ => (((w.heap.size ≤ k_)) ∧ (some k_ ≠ (.slice Ao27 x6_1.length co27 : Value).ownBlock ∧ (k_ ≠ gb1067 ∧ (k_ ≠ gb1075 ∧ k_ ≠ g1070))))) (nu HO_1076000.out) (fun k_ hk_ => (⟨hk_, hk_.2.2.2.2⟩ : _ ∧ k_ ≠ g1070))) hk (fun _ h => h.2)) (fun _ h => h.1)); have n2_ := am_ (KeepBut.blk hk (bu BK1067.out) NB1067_1070.out (by simp)); have n3_ := am_ (KeepBut.blk hk (bu BK1075.out) NB1075_1070.out (by simp)); have n4_ := am_ (hb); have n5_ := am_ (hi); clear HO_6 HO_1076000 BK1067 BK1075 HB HI1070; have HO_6 := n0_; have HO_1076000 := n1_; have BK1067 := n2_; have BK1075 := n3_; have HB := n4_; have HI1070 := n5_; clear n0_ n1_ n2_ n3_ n4_ n5_; (try clear hb); (try clear hb2); (try clear hk); (try clear hi)) | ((with_reducible refine gate_callee (f := 101) rfl ?_); refine goesL_ (some 29) rfl rfl Try.func101 (by kernel_rfl) rfl #[.slice Ao27 x6_1.length co27, .int .i64 (wrap64 (1 + t1079))] rfl (by (try simp only [List.map_toArray, List.map_cons, List.map_nil]); first | done | rfl | (simp only [List.length_drop, List.length_take]; rfl)) ?_; (with_reducible refine (spec_l12Has.calls k1 _ _ x6_1 (wrap64 (1 + t1079)) true _ ?side1 ?side2 A25.out).mono ?_); (case side1 => repeat (first | exact (Kd.R_reads' HO_6.out).2.2 | (with_reducible refine Kd.C_alloc ?_ _) | (with_reducible refine Kd.C_drewN ?_ _) | (with_reducible refine Kd.C_drew ?_))); (case side2 => exact (Kd.R_reads' HO_6.out).2.1); rintro e w' ⟨rfl, ⟨nd, rfl⟩⟩; refine ⟨_, rfl, ?_⟩))
      go_roundg k1
      case measure => have := HK1.out; omega
      case rel => exact ⟨(x6_1), (wrap64 (x7_1 + 1)), (t1080), z50_1, H', ⟨by have := HK1.out; omega⟩, ⟨ru HO_6.out⟩, ⟨nu HO_1076000.out⟩, ⟨bu BK1067.out⟩, ⟨bu BK1075.out⟩, ⟨z50_7⟩, ⟨z50_8⟩⟩
     ·replace c26 := Bool.eq_false_iff.mpr c26
      subst c26
      have H1 : (if x6_1.length < 17592186044416 then (spec_DrawTurnVals.l0 k1 (x6_1 ++ [wrap64 (1 + t1079)]) (wrap64 (x7_1 + 1)) t1068 t1080 t1071) else (none)) = some (r1, r2) := by rw [if_neg (show ¬ (false = true) by decide)] at H; exact H
      clear H
      have H := H1
      clear H1
      by_cases c29 : x6_1.length < 17592186044416
      ·rw [if_pos c29] at H
       have LMc29 := am_ c29
       clear c29
       obtain ⟨y1086, hy1086⟩ : ∃ y_ : List Int, y_ = (x6_1 ++ [wrap64 (1 + t1079)]) := ⟨_, rfl⟩
       replace H : (spec_DrawTurnVals.l0 k1 y1086 (wrap64 (x7_1 + 1)) t1068 t1080 t1071) = some (r1, r2) := by first | (rw [hy1086]; with_reducible exact H) | (have H2_ := (Option.bind_some _ _).symm.trans H; rw [hy1086]; with_reducible exact H2_) | (have H2_ := (Option.bind_some _ _).symm.trans H; with_reducible exact H2_) | with_reducible exact H | (rw [hy1086]; exact H) | exact H
       have Ny1086 := am_ hy1086
       clear hy1086
       have H' := am_ H
       clear H
       obtain ⟨Ao30, co30, eo30⟩ := Kd.R_slice HO_6.out
       subst eo30
       go_wp2_with (first | ((with_reducible refine gate_callee (f := 71) rfl ?_); refine goesL_ (some 20) rfl rfl Try.func71 (by kernel_rfl) rfl #[.pointer (some ⟨g1070, 0, none⟩), .int .i64 3] rfl (by (try simp only [List.map_toArray, List.map_cons, List.map_nil]); first | done | rfl | (simp only [List.length_drop, List.length_take]; rfl)) ?_; (with_reducible refine (spec_l6Rd_pick.calls k1 g1070 t1068 x1071001_1 3 t1079 t1080 w _ ?side1 ?side2 A15.out).mono ?_); (case side1 => repeat (first | (with_reducible first | exact HI1070.out | apply IsS116.alloc | apply IsS116.drewN | apply IsS116.drew | apply IsS116.set_1 | refine IsS116.far ?_ NB1070_1067.out _ | refine IsS116.far ?_ NB1070_1075.out _) | exact HI1070.out)); (case side2 => repeat (first | (with_reducible first | exact HB.out | apply below_alloc | apply pw_below_drewN | apply below_drew1 | refine below_set ?_ (IsS116.ge HI1070.out) | refine below_set ?_ GE1067.out | refine below_set ?_ GE1075.out) | exact HB.out)); rintro e w31 ⟨rfl, hi, hb, hk⟩; refine ⟨_, rfl, ?_⟩; have n0_ := am_ (Kd.R_mono (Kd.R_keep (IsS116.apart (show IsS116 w _ g1070 t1068 x1071001_1 from by repeat (first | (with_reducible first | exact HI1070.out | apply IsS116.alloc | apply IsS116.drewN | apply IsS116.drew | apply IsS116.set_1 | refine IsS116.far ?_ NB1070_1067.out _ | refine IsS116.far ?_ NB1070_1075.out _) | exact HI1070.out)) (ru HO_6.out) (by decide)) hk (fun _ h => h.2)) (fun _ h => h.1)); have n1_ := am_ (Kd.N_mono (Kd.N_keep (Kd.N_mono (ok := fun k_ => (((w.heap.size ≤ k_)) ∧ (some k_ ≠ (.slice Ao30 x6_1.length co30 : Value).ownBlock ∧ (k_ ≠ gb1067 ∧ (k_ ≠ gb1075 ∧ k_ ≠ g1070))))) (nu HO_1076000.out) (fun k_ hk_ => (⟨hk_, hk_.2.2.2.2⟩ : _ ∧ k_ ≠ g1070))) hk (fun _ h => h.2)) (fun _ h => h.1)); have n2_ := am_ (KeepBut.blk hk (bu BK1067.out) NB1067_1070.out (by simp)); have n3_ := am_ (KeepBut.blk hk (bu BK1075.out) NB1075_1070.out (by simp)); have n4_ := am_ (hb); have n5_ := am_ (hi); clear HO_6 HO_1076000 BK1067 BK1075 HB HI1070; have HO_6 := n0_; have HO_1076000 := n1_; have BK1067 := n2_; have BK1075 := n3_; have HB := n4_; have HI1070 := n5_; clear n0_ n1_ n2_ n3_ n4_ n5_; (try clear hb); (try clear hb2); (try clear hk); (try clear hi)) | ((with_reducible refine gate_callee (f := 101) rfl ?_); refine goesL_ (some 29) rfl rfl Try.func101 (by kernel_rfl) rfl #[.slice Ao30 x6_1.length co30, .int .i64 (wrap64 (1 + t1079))] rfl (by (try simp only [List.map_toArray, List.map_cons, List.map_nil]); first | done | rfl | (simp only [List.length_drop, List.length_take]; rfl)) ?_; (with_reducible refine (spec_l12Has.calls k1 _ _ x6_1 (wrap64 (1 + t1079)) false _ ?side1 ?side2 A25.out).mono ?_); (case side1 => repeat (first | exact (Kd.R_reads' HO_6.out).2.2 | (with_reducible refine Kd.C_alloc ?_ _) | (with_reducible refine Kd.C_drewN ?_ _) | (with_reducible refine Kd.C_drew ?_))); (case side2 => exact (Kd.R_reads' HO_6.out).2.1); rintro e w' ⟨rfl, ⟨nd, rfl⟩⟩; refine ⟨_, rfl, ?_⟩) | ((with_reducible refine gate_builtin (b := .append) (xs := #[.tmp 31, .tmp 33]) rfl ?_); at_builtin; refine Kd.R_append (Kd.int .i64) (w0 := w) w.heap.size rfl (.tmp 31) (.tmp 33) 22 3 (.int .i64 0) 8 rfl Try.underlying22 info3 rfl (by decide) (by omega) (.slice Ao30 x6_1.length co30) x6_1 (wrap64 (1 + t1079)) [.int .i64 (wrap64 (1 + t1079))] (fun k_ => (w.heap.size ≤ k_)) (fun _ => False) rfl rfl ?aP (fun _ hk => hk.elim) ?aF ?aO ?aB ?aS ?aL ?_; (case aP => exact rfl); (case aB => exact z50_8); (case aF => exact (fun k_ hk => (Nat.le_trans (below_size z50_8) hk))); (case aO => exact (ru HO_6.out)); (case aS => exact (below_size z50_8)); (case aL => have := LMc29.out; omega); intro v1087 w32 ho hb hg hat; rw [← Ny1086.out] at ho; have n0_ := am_ (Kd.N_afterv (ok := (fun k_ => (w.heap.size ≤ k_) ∧ k_ ≠ gb1067 ∧ k_ ≠ gb1075 ∧ k_ ≠ g1070)) (nu (Kd.N_mono HO_1076000.out (fun _ hk => ⟨⟨hk.1, ⟨hk.2.2.1, ⟨hk.2.2.2.1, hk.2.2.2.2⟩⟩⟩, hk.2.1⟩))) hg hat); have n1_ := am_ (blk_grown (bu BK1067.out) hg (Kd.R_ne HO_6.out BK1067.out (by decide))); have n2_ := am_ (blk_grown (bu BK1075.out) hg (Kd.R_ne HO_6.out BK1075.out (by decide))); have n3_ := am_ (IsS116.grown z50_7 hg (IsS116.own_ne HI1070.out HO_6.out (by decide))); have n4_ := am_ (hb); have n5_ := am_ (ho); clear HO_1076000 BK1067 BK1075 HI1070 HB HO_6; have HO_1076000 := n0_; have BK1067 := n1_; have BK1075 := n2_; have HI1070 := n3_; have HB := n4_; have HO1088 := n5_; clear n0_ n1_ n2_ n3_ n4_ n5_; clear ho hb hg hat))
       go_roundg k1
       case measure => have := HK1.out; omega
       case rel => exact ⟨(y1086), (wrap64 (x7_1 + 1)), (t1080), z50_1, H', ⟨by have := HK1.out; omega⟩, ⟨ru HO1088.out⟩, ⟨nu (Kd.N_mono HO_1076000.out (fun _ hk => ⟨hk.1.1, ⟨hk.2, ⟨hk.1.2.1, ⟨hk.1.2.2.1, hk.1.2.2.2⟩⟩⟩⟩))⟩, ⟨bu BK1067.out⟩, ⟨bu BK1075.out⟩, ⟨z50_7⟩, ⟨z50_8⟩⟩
      ·rw [if_neg c29] at H
       exact absurd H (by simp)
   ·rw [if_neg c14] at H
    have c14b0 : decide ((x6_1.length : Int) ≤ 3) = false := decide_eq_false c14
    have c14b1 : decide (x6_1.length ≤ 3) = false := decide_eq_false (by omega)
    clear c14
    replace H := Option.bind_eq_some_iff.mp H
    obtain ⟨⟨t1089, t1090⟩, A330, H⟩ := H
    replace H : (if t1089 = 0 then ((spec_l6Rd_pick.f k1 t1068 t1090 (x6_1.length : Int)).bind fun bt1091 => ((spec_l6Rd_pick.f k1 t1068 bt1091.2 4).bind fun bt1093 => (if 0 ≤ bt1091.1 then (if bt1091.1 < (x6_1.length : Int) then (some (t1071, (x6_1.set (bt1091.1 : Int).toNat bt1093.1))) else (none)) else (none)))) else (some (t1071, x6_1))) = some (r1, r2) := H
    have A33 := am_ A330
    clear A330
    by_cases c34 : t1089 = 0
    ·rw [if_pos c34] at H
     have c34b0 : (t1089 == 0) = true := beq_iff_eq.mpr c34
     have c34b1 : (t1089 != 0) = false := bne_eq_false_iff_eq.mpr c34
     clear c34
     replace H := Option.bind_eq_some_iff.mp H
     obtain ⟨⟨t1091, t1092⟩, A350, H⟩ := H
     replace H : ((spec_l6Rd_pick.f k1 t1068 t1092 4).bind fun bt1093 => (if 0 ≤ t1091 then (if t1091 < (x6_1.length : Int) then (some (t1071, (x6_1.set (t1091 : Int).toNat bt1093.1))) else (none)) else (none))) = some (r1, r2) := H
     have A35 := am_ A350
     clear A350
     replace H := Option.bind_eq_some_iff.mp H
     obtain ⟨⟨t1093, t1094⟩, A360, H⟩ := H
     replace H : (if 0 ≤ t1091 then (if t1091 < (x6_1.length : Int) then (some (t1071, (x6_1.set (t1091 : Int).toNat t1093))) else (none)) else (none)) = some (r1, r2) := H
     have A36 := am_ A360
     clear A360
     by_cases c37 : 0 ≤ t1091
     ·rw [if_pos c37] at H
      have c37b0 : decide (0 ≤ t1091) = true := decide_eq_true c37
      clear c37
      by_cases c38 : t1091 < (x6_1.length : Int)
      ·rw [if_pos c38] at H
       have c38b0 : decide (t1091 < (x6_1.length : Int)) = true := decide_eq_true c38
       clear c38
       obtain ⟨y1095, hy1095⟩ : ∃ y_ : List Int, y_ = (x6_1.set (t1091 : Int).toNat t1093) := ⟨_, rfl⟩
       replace H : (some (t1071, y1095)) = some (r1, r2) := by first | (rw [hy1095]; with_reducible exact H) | (have H2_ := (Option.bind_some _ _).symm.trans H; rw [hy1095]; with_reducible exact H2_) | (have H2_ := (Option.bind_some _ _).symm.trans H; with_reducible exact H2_) | with_reducible exact H | (rw [hy1095]; exact H) | exact H
       have Ny1095 := am_ hy1095
       clear hy1095
       simp only [Option.some.injEq, Prod.mk.injEq] at H
       obtain ⟨rfl, rfl⟩ := H
       obtain ⟨Ao40, co40, eo40⟩ := Kd.R_slice HO_6.out
       subst eo40
       go_wp2_with (first | ((with_reducible refine gate_callee (f := 71) rfl ?_); refine goesL_ (some 36) rfl rfl Try.func71 (by kernel_rfl) rfl #[.pointer (some ⟨g1070, 0, none⟩), .int .i64 16] rfl (by (try simp only [List.map_toArray, List.map_cons, List.map_nil]); first | done | rfl | (simp only [List.length_drop, List.length_take]; rfl)) ?_; (with_reducible refine (spec_l6Rd_pick.calls k1 g1070 t1068 x1071001_1 16 t1089 t1090 w _ ?side1 ?side2 A33.out).mono ?_); (case side1 => repeat (first | (with_reducible first | exact HI1070.out | apply IsS116.alloc | apply IsS116.drewN | apply IsS116.drew | apply IsS116.set_1 | refine IsS116.far ?_ NB1070_1067.out _ | refine IsS116.far ?_ NB1070_1075.out _) | exact HI1070.out)); (case side2 => repeat (first | (with_reducible first | exact HB.out | apply below_alloc | apply pw_below_drewN | apply below_drew1 | refine below_set ?_ (IsS116.ge HI1070.out) | refine below_set ?_ GE1067.out | refine below_set ?_ GE1075.out) | exact HB.out)); rintro e w41 ⟨rfl, hi, hb, hk⟩; refine ⟨_, rfl, ?_⟩; have n0_ := am_ (Kd.R_mono (Kd.R_keep (IsS116.apart (show IsS116 w _ g1070 t1068 x1071001_1 from by repeat (first | (with_reducible first | exact HI1070.out | apply IsS116.alloc | apply IsS116.drewN | apply IsS116.drew | apply IsS116.set_1 | refine IsS116.far ?_ NB1070_1067.out _ | refine IsS116.far ?_ NB1070_1075.out _) | exact HI1070.out)) (ru HO_6.out) (by decide)) hk (fun _ h => h.2)) (fun _ h => h.1)); have n1_ := am_ (Kd.N_mono (Kd.N_keep (Kd.N_mono (ok := fun k_ => (((w.heap.size ≤ k_)) ∧ (some k_ ≠ (.slice Ao40 x6_1.length co40 : Value).ownBlock ∧ (k_ ≠ gb1067 ∧ (k_ ≠ gb1075 ∧ k_ ≠ g1070))))) (nu HO_1076000.out) (fun k_ hk_ => (⟨hk_, hk_.2.2.2.2⟩ : _ ∧ k_ ≠ g1070))) hk (fun _ h => h.2)) (fun _ h => h.1)); have n2_ := am_ (KeepBut.blk hk (bu BK1067.out) NB1067_1070.out (by simp)); have n3_ := am_ (KeepBut.blk hk (bu BK1075.out) NB1075_1070.out (by simp)); have n4_ := am_ (hb); have n5_ := am_ (hi); clear HO_6 HO_1076000 BK1067 BK1075 HB HI1070; have HO_6 := n0_; have HO_1076000 := n1_; have BK1067 := n2_; have BK1075 := n3_; have HB := n4_; have HI1070 := n5_; clear n0_ n1_ n2_ n3_ n4_ n5_; (try clear hb); (try clear hb2); (try clear hk); (try clear hi)) | ((with_reducible refine gate_callee (f := 71) rfl ?_); refine goesL_ (some 42) rfl rfl Try.func71 (by kernel_rfl) rfl #[.pointer (some ⟨g1070, 0, none⟩), .int .i64 (x6_1.length : Int)] rfl (by (try simp only [List.map_toArray, List.map_cons, List.map_nil]); first | done | rfl | (simp only [List.length_drop, List.length_take]; rfl)) ?_; (with_reducible refine (spec_l6Rd_pick.calls k1 g1070 t1068 t1090 (x6_1.length : Int) t1091 t1092 w _ ?side1 ?side2 A35.out).mono ?_); (case side1 => repeat (first | (with_reducible first | exact HI1070.out | apply IsS116.alloc | apply IsS116.drewN | apply IsS116.drew | apply IsS116.set_1 | refine IsS116.far ?_ NB1070_1067.out _ | refine IsS116.far ?_ NB1070_1075.out _) | exact HI1070.out)); (case side2 => repeat (first | (with_reducible first | exact HB.out | apply below_alloc | apply pw_below_drewN | apply below_drew1 | refine below_set ?_ (IsS116.ge HI1070.out) | refine below_set ?_ GE1067.out | refine below_set ?_ GE1075.out) | exact HB.out)); rintro e w42 ⟨rfl, hi, hb, hk⟩; refine ⟨_, rfl, ?_⟩; have n0_ := am_ (Kd.R_mono (Kd.R_keep (IsS116.apart (show IsS116 w _ g1070 t1068 t1090 from by repeat (first | (with_reducible first | exact HI1070.out | apply IsS116.alloc | apply IsS116.drewN | apply IsS116.drew | apply IsS116.set_1 | refine IsS116.far ?_ NB1070_1067.out _ | refine IsS116.far ?_ NB1070_1075.out _) | exact HI1070.out)) (ru HO_6.out) (by decide)) hk (fun _ h => h.2)) (fun _ h => h.1)); have n1_ := am_ (Kd.N_mono (Kd.N_keep (Kd.N_mono (ok := fun k_ => (((w.heap.size ≤ k_)) ∧ (some k_ ≠ (.slice Ao40 x6_1.length co40 : Value).ownBlock ∧ (k_ ≠ gb1067 ∧ (k_ ≠ gb1075 ∧ k_ ≠ g1070))))) (nu HO_1076000.out) (fun k_ hk_ => (⟨hk_, hk_.2.2.2.2⟩ : _ ∧ k_ ≠ g1070))) hk (fun _ h => h.2)) (fun _ h => h.1)); have n2_ := am_ (KeepBut.blk hk (bu BK1067.out) NB1067_1070.out (by simp)); have n3_ := am_ (KeepBut.blk hk (bu BK1075.out) NB1075_1070.out (by simp)); have n4_ := am_ (hb); have n5_ := am_ (hi); clear HO_6 HO_1076000 BK1067 BK1075 HB HI1070; have HO_6 := n0_; have HO_1076000 := n1_; have BK1067 := n2_; have BK1075 := n3_; have HB := n4_; have HI1070 := n5_; clear n0_ n1_ n2_ n3_ n4_ n5_; (try clear hb); (try clear hb2); (try clear hk); (try clear hi)) | ((with_reducible refine gate_callee (f := 71) rfl ?_); refine goesL_ (some 44) rfl rfl Try.func71 (by kernel_rfl) rfl #[.pointer (some ⟨g1070, 0, none⟩), .int .i64 4] rfl (by (try simp only [List.map_toArray, List.map_cons, List.map_nil]); first | done | rfl | (simp only [List.length_drop, List.length_take]; rfl)) ?_; (with_reducible refine (spec_l6Rd_pick.calls k1 g1070 t1068 t1092 4 t1093 t1094 w _ ?side1 ?side2 A36.out).mono ?_); (case side1 => repeat (first | (with_reducible first | exact HI1070.out | apply IsS116.alloc | apply IsS116.drewN | apply IsS116.drew | apply IsS116.set_1 | refine IsS116.far ?_ NB1070_1067.out _ | refine IsS116.far ?_ NB1070_1075.out _) | exact HI1070.out)); (case side2 => repeat (first | (with_reducible first | exact HB.out | apply below_alloc | apply pw_below_drewN | apply below_drew1 | refine below_set ?_ (IsS116.ge HI1070.out) | refine below_set ?_ GE1067.out | refine below_set ?_ GE1075.out) | exact HB.out)); rintro e w43 ⟨rfl, hi, hb, hk⟩; refine ⟨_, rfl, ?_⟩; have n0_ := am_ (Kd.R_mono (Kd.R_keep (IsS116.apart (show IsS116 w _ g1070 t1068 t1092 from by repeat (first | (with_reducible first | exact HI1070.out | apply IsS116.alloc | apply IsS116.drewN | apply IsS116.drew | apply IsS116.set_1 | refine IsS116.far ?_ NB1070_1067.out _ | refine IsS116.far ?_ NB1070_1075.out _) | exact HI1070.out)) (ru HO_6.out) (by decide)) hk (fun _ h => h.2)) (fun _ h => h.1)); have n1_ := am_ (Kd.N_mono (Kd.N_keep (Kd.N_mono (ok := fun k_ => (((w.heap.size ≤ k_)) ∧ (some k_ ≠ (.slice Ao40 x6_1.length co40 : Value).ownBlock ∧ (k_ ≠ gb1067 ∧ (k_ ≠ gb1075 ∧ k_ ≠ g1070))))) (nu HO_1076000.out) (fun k_ hk_ => (⟨hk_, hk_.2.2.2.2⟩ : _ ∧ k_ ≠ g1070))) hk (fun _ h => h.2)) (fun _ h => h.1)); have n2_ := am_ (KeepBut.blk hk (bu BK1067.out) NB1067_1070.out (by simp)); have n3_ := am_ (KeepBut.blk hk (bu BK1075.out) NB1075_1070.out (by simp)); have n4_ := am_ (hb); have n5_ := am_ (hi); clear HO_6 HO_1076000 BK1067 BK1075 HB HI1070; have HO_6 := n0_; have HO_1076000 := n1_; have BK1067 := n2_; have BK1075 := n3_; have HB := n4_; have HI1070 := n5_; clear n0_ n1_ n2_ n3_ n4_ n5_; (try clear hb); (try clear hb2); (try clear hk); (try clear hi); have p39 : 0 ≤ (t1091 : Int) := of_decide_eq_true z50_2; have q39 : (t1091 : Int) < ((x6_1.length : Int) : Int) := of_decide_eq_true z50_2; obtain ⟨go39, co39, eo39, gb39, gl39, cl39, HG39⟩ := Kd.R_form HO_6.out (by omega); (first | cases eo39 | (injection eo39 with ea_ en_ ec_; (first | subst ea_ | (injection ea_ with ea_; subst ea_)); subst ec_; clear en_)); have GB39 := am_ gb39; have GG39 := am_ HG39; clear gb39 gl39 HG39; obtain ⟨hx39_0, hf39_0⟩ := Kd.R_celln 0 HO_6.out (t1091 : Int) p39 q39; replace p39 := eq_true p39; replace q39 := eq_true q39; obtain ⟨hy44_, hz44_⟩ := Kd.R_celln 0 HO_6.out (t1091 : Int) (of_decide_eq_true z50_2) (of_decide_eq_true z50_2); have HP44 := Kd.R_putg HO_6.out (t1091 : Int) t1093) | ((with_reducible refine gate_store (t := 3) (p := 45) rfl ?_); refine store_event (t := 3) (p := 45) (v := ?vo_w45) (w1 := (w43.setCell ⟨go39, (t1091 : Int).toNat, none⟩ (.int .i64 t1093))) ?hg ?ho ?hn ?hr ?_; (case ho => rfl); (case hg => rfl); (case hn => rfl); (case hr => first | (go_simp; done) | (go_simp; rfl)); intro w45 hw; have hg : w43.grownBy w45 (some go39) := (by rw [hw]; exact HP44.2); have hp_ : Kd.R (Kd.int .i64) 3 w45 w.heap.size (fun k_ => (w.heap.size ≤ k_)) (.slice (some ⟨go39, 0, none⟩) x6_1.length co40) y1095 := (by rw [hw, Ny1095.out]; exact HP44.1); clear HP44; have n0_ := am_ (hp_); have n1_ := am_ (Kd.N_afterv (v := (.slice (some ⟨go39, 0, none⟩) x6_1.length co40)) (v1 := (.slice (some ⟨go39, 0, none⟩) x6_1.length co40)) (ok := (fun k_ => (w.heap.size ≤ k_) ∧ k_ ≠ gb1067 ∧ k_ ≠ gb1075 ∧ k_ ≠ g1070)) (nu (Kd.N_mono HO_1076000.out (fun _ hk => ⟨⟨hk.1, ⟨hk.2.2.1, ⟨hk.2.2.2.1, hk.2.2.2.2⟩⟩⟩, hk.2.1⟩))) hg (.inl rfl)); have n2_ := am_ (blk_grown (bu BK1067.out) hg (Kd.R_ne HO_6.out BK1067.out (by decide))); have n3_ := am_ (blk_grown (bu BK1075.out) hg (Kd.R_ne HO_6.out BK1075.out (by decide))); have n4_ := am_ (IsS116.grown z50_7 hg (IsS116.own_ne HI1070.out HO_6.out (by decide))); have n5_ := am_ (by rw [hw]; exact below_set (HB.out) GB39.out : Below w.heap.size w w45); clear HO_6 HO_1076000 BK1067 BK1075 HI1070 HB; have HO_6 := n0_; have HO_1076000 := n1_; have BK1067 := n2_; have BK1075 := n3_; have HI1070 := n4_; have HB := n5_; clear n0_ n1_ n2_ n3_ n4_ n5_; clear hg hw hp_; have hnb46 := NB1075_1067.out; have hnc46 := NB1067_1075.out; have hnb47 := NB1075_1070.out; have hnc47 := NB1070_1075.out; have hcz48_0 : w45.cell? ⟨gb1075, 0, none⟩ = some (.slice Ao8 t1071.length co8) := (blk_cell BK1075.out 0).trans rfl; have hfz48_0 := blk_frozen BK1075.out 0; have hnb49 := NB1067_1070.out; have hnc49 := NB1070_1067.out; have hcz50_0 : w45.cell? ⟨gb1067, 0, none⟩ = some (.slice none 0 0) := (blk_cell BK1067.out 0).trans rfl; have hfz50_0 := blk_frozen BK1067.out 0))
       refine bodyPost_ret (results_ct rfl _ _ gb1067 35 #[.slice Ao8 t1071.length co8] (0, 0) _ rfl z50_9 Try.underlying35 rfl (by kernel_rfl)) rfl ?_
       exact ⟨_, _, z50_3, nu (Kd.N_mono (Kd.N_far (p := ⟨gb1067, 0, none⟩) (Kd.N_mono HO_1076000.out (fun k_ hk => (⟨hk, hk.1.2.1⟩ : _ ∧ k_ ≠ gb1067))) (fun _ hk => hk.2) (.slice Ao8 t1071.length co8)) (fun _ hk => ⟨hk.1.1.1, hk.1.2⟩)), ru (Kd.R_mono (Kd.R_far (p := ⟨gb1067, 0, none⟩) (Kd.R_types HO_6.out BK1067.out (by decide)) (fun _ hk => hk.2) (.slice Ao8 t1071.length co8)) (fun _ hk => hk.1)), z50_8⟩
      ·rw [if_neg c38] at H
       exact absurd H (by simp)
     ·rw [if_neg c37] at H
      exact absurd H (by simp)
    ·rw [if_neg c34] at H
     have c34b0 : (t1089 == 0) = false := beq_eq_false_iff_ne.mpr c34
     have c34b1 : (t1089 != 0) = true := bne_iff_ne.mpr c34
     simp only [Option.some.injEq, Prod.mk.injEq] at H
     obtain ⟨rfl, rfl⟩ := H
     obtain ⟨Ao51, co51, eo51⟩ := Kd.R_slice HO_6.out
     subst eo51
     go_wp2_with (first | ((with_reducible refine gate_callee (f := 71) rfl ?_); refine goesL_ (some 36) rfl rfl Try.func71 (by kernel_rfl) rfl #[.pointer (some ⟨g1070, 0, none⟩), .int .i64 16] rfl (by (try simp only [List.map_toArray, List.map_cons, List.map_nil]); first | done | rfl | (simp only [List.length_drop, List.length_take]; rfl)) ?_; (with_reducible refine (spec_l6Rd_pick.calls k1 g1070 t1068 x1071001_1 16 t1089 t1090 w _ ?side1 ?side2 A33.out).mono ?_); (case side1 => repeat (first | (with_reducible first | exact HI1070.out | apply IsS116.alloc | apply IsS116.drewN | apply IsS116.drew | apply IsS116.set_1 | refine IsS116.far ?_ NB1070_1067.out _ | refine IsS116.far ?_ NB1070_1075.out _) | exact HI1070.out)); (case side2 => repeat (first | (with_reducible first | exact HB.out | apply below_alloc | apply pw_below_drewN | apply below_drew1 | refine below_set ?_ (IsS116.ge HI1070.out) | refine below_set ?_ GE1067.out | refine below_set ?_ GE1075.out) | exact HB.out)); rintro e w52 ⟨rfl, hi, hb, hk⟩; refine ⟨_, rfl, ?_⟩; have n0_ := am_ (Kd.R_mono (Kd.R_keep (IsS116.apart (show IsS116 w _ g1070 t1068 x1071001_1 from by repeat (first | (with_reducible first | exact HI1070.out | apply IsS116.alloc | apply IsS116.drewN | apply IsS116.drew | apply IsS116.set_1 | refine IsS116.far ?_ NB1070_1067.out _ | refine IsS116.far ?_ NB1070_1075.out _) | exact HI1070.out)) (ru HO_6.out) (by decide)) hk (fun _ h => h.2)) (fun _ h => h.1)); have n1_ := am_ (Kd.N_mono (Kd.N_keep (Kd.N_mono (ok := fun k_ => (((w.heap.size ≤ k_)) ∧ (some k_ ≠ (.slice Ao51 x6_1.length co51 : Value).ownBlock ∧ (k_ ≠ gb1067 ∧ (k_ ≠ gb1075 ∧ k_ ≠ g1070))))) (nu HO_1076000.out) (fun k_ hk_ => (⟨hk_, hk_.2.2.2.2⟩ : _ ∧ k_ ≠ g1070))) hk (fun _ h => h.2)) (fun _ h => h.1)); have n2_ := am_ (KeepBut.blk hk (bu BK1067.out) NB1067_1070.out (by simp)); have n3_ := am_ (KeepBut.blk hk (bu BK1075.out) NB1075_1070.out (by simp)); have n4_ := am_ (hb); have n5_ := am_ (hi); clear HO_6 HO_1076000 BK1067 BK1075 HB HI1070; have HO_6 := n0_; have HO_1076000 := n1_; have BK1067 := n2_; have BK1075 := n3_; have HB := n4_; have HI1070 := n5_; clear n0_ n1_ n2_ n3_ n4_ n5_; (try clear hb); (try clear hb2); (try clear hk); (try clear hi); have hnb53 := NB1075_1067.out; have hnc53 := NB1067_1075.out; have hnb54 := NB1075_1070.out; have hnc54 := NB1070_1075.out; have hcz55_0 : w52.cell? ⟨gb1075, 0, none⟩ = some (.slice Ao8 t1071.length co8) := (blk_cell BK1075.out 0).trans rfl; have hfz55_0 := blk_frozen BK1075.out 0; have hnb56 := NB1067_1070.out; have hnc56 := NB1070_1067.out; have hcz57_0 : w52.cell? ⟨gb1067, 0, none⟩ = some (.slice none 0 0) := (blk_cell BK1067.out 0).trans rfl; have hfz57_0 := blk_frozen BK1067.out 0))
     refine bodyPost_ret (results_ct rfl _ _ gb1067 35 #[.slice Ao8 t1071.length co8] (0, 0) _ rfl z50_9 Try.underlying35 rfl (by kernel_rfl)) rfl ?_
     exact ⟨_, _, z50_3, nu (Kd.N_mono (Kd.N_far (p := ⟨gb1067, 0, none⟩) (Kd.N_mono HO_1076000.out (fun k_ hk => (⟨hk, hk.2.2.1⟩ : _ ∧ k_ ≠ gb1067))) (fun _ hk => hk.2) (.slice Ao8 t1071.length co8)) (fun _ hk => ⟨hk.1.1, hk.1.2.1⟩)), ru (Kd.R_mono (Kd.R_far (p := ⟨gb1067, 0, none⟩) (Kd.R_types HO_6.out BK1067.out (by decide)) (fun _ hk => hk.2) (.slice Ao8 t1071.length co8)) (fun _ hk => hk.1)), z50_8⟩

end Go.Proofs.Ytefkbmhkhpekjaa.PB

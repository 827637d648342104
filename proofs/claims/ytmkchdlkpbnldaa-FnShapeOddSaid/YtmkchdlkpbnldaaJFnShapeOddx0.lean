-- Joined by wip/mclaim.py out of YtmkchdlkpbnldaaPBx9, YtmkchdlkpbnldaaPBx22, YtmkchdlkpbnldaaPBx23, YtmkchdlkpbnldaaPBx10, YtmkchdlkpbnldaaPBx40, YtmkchdlkpbnldaaPBx24, YtmkchdlkpbnldaaPBx25, YtmkchdlkpbnldaaPBx11
import Derived.Test.YtmkchdlkpbnldaaPBx0
import Derived.Test.YtmkchdlkpbnldaaJFnShapeOddx3
import Derived.Test.YtmkchdlkpbnldaaJFnShapeOddyPBx21
import Derived.Test.YtmkchdlkpbnldaaJFnShapeOddyPBx38
import Derived.Test.YtmkchdlkpbnldaaPBx31
import Derived.Test.YtmkchdlkpbnldaaJFnShapeOddx2
import Derived.Test.YtmkchdlkpbnldaaPBx14
namespace Go.Proofs.Ytmkchdlkpbnldaa.PB
open Go.RowKit Go.Proofs.YtmkchdlkpbnldaaW.PrintWords Go.Proofs.YtmkchdlkpbnldaaW.PrintLast Go.Proofs.YtmkchdlkpbnldaaW.PrintMore
attribute [local go_sem] max2_int min2_int max_two min_two max_three min_three max_four min_four   -- for this text's walks alone
open Go.Proofs.YtmkchdlkpbnldaaMine
set_option linter.unusedVariables false
set_option linter.unusedSimpArgs false

theorem z9_1 {p : Prop} (h : p := by first | rfl | (simp [errW_none, errW_some] <;> rfl) | (simp [*, errW_none, errW_some] <;> rfl)) : p := h
theorem z9_2 {p : Prop} (h : p := by repeat (first | (with_reducible first | exact HB.out | apply below_alloc | apply pw_below_drewN | apply below_drew1) | exact HB.out)) : p := h
theorem z9_3 {p : Prop} (h : p := by repeat (first | (with_reducible first | exact HB.out | apply below_alloc | apply pw_below_drewN | apply below_drew1 | refine below_set ?_ GE465.out) | exact HB.out)) : p := h
/-! ### impl_ExecAll: function 9 -/
def impl_ExecAll.f (k : Nat) (l0_0 : List (List (S70))) : Option ((List (S40))) := (impl_ProgOk.f k l0_0).bind fun t466 => (if t466 = true then ((impl_sceneOf.f k l0_0).bind fun bt467 => ((impl_scene_all.f k bt467.1 bt467.2.1 bt467.2.2).bind fun t476 => (some t476))) else (some ([] : List (S40))))
set_option maxHeartbeats 8000000 in
set_option maxRecDepth 100000 in
theorem impl_ExecAll.calls (k : Nat) (P0_0_ : Nat → Prop) (A0_0 : Option Addr) (c0_0 : Nat) (l0_0 : List (List (S70))) (r : List (S40)) (w : World) (hs0_0 : Kd.V (Kd.slice 70 k70) 55 w w.heap.size (fun k_ => P0_0_ k_) (.slice A0_0 l0_0.length c0_0) l0_0) (h : impl_ExecAll.f k l0_0 = some r) :
  Calls Try.prog 9 #[.agg #[.slice A0_0 l0_0.length c0_0]] w fun e w' => ∃ v0_ : Value, e = .returned (v0_) ∧ Kd.N k40 40 w' w.heap.size (fun k_ => (P0_0_ k_ ∨ w.heap.size ≤ k_)) v0_ r ∧ Below w.heap.size w w' := by
 have hu32 := Try.underlying32
 have HO0_0 := am_ (show Kd.V (Kd.slice 70 k70) 55 w w.heap.size (fun k_ => (P0_0_ k_ ∨ w.heap.size ≤ k_)) (.slice A0_0 l0_0.length c0_0) l0_0 from Kd.V_mono hs0_0 (fun k_ hk => .inl hk))
 have HB := am_ (Below.refl w.heap.size w)
 have H : ((impl_ProgOk.f k l0_0).bind fun t466 => (if t466 = true then ((impl_sceneOf.f k l0_0).bind fun bt467 => ((impl_scene_all.f k bt467.1 bt467.2.1 bt467.2.2).bind fun t476 => (some t476))) else (some ([] : List (S40))))) = some r := h
 clear h
 replace H := Option.bind_eq_some_iff.mp H
 obtain ⟨t466, A20, H⟩ := H
 replace H : (if t466 = true then ((impl_sceneOf.f k l0_0).bind fun bt467 => ((impl_scene_all.f k bt467.1 bt467.2.1 bt467.2.2).bind fun t476 => (some t476))) else (some ([] : List (S40)))) = some r := H
 have A2 := am_ A20
 clear A20
 by_cases c3 : t466 = true
 ·subst c3
  have H1 : ((impl_sceneOf.f k l0_0).bind fun bt467 => ((impl_scene_all.f k bt467.1 bt467.2.1 bt467.2.2).bind fun t476 => (some t476))) = some r := by rw [if_pos rfl] at H; exact H
  clear H
  have H := H1
  clear H1
  replace H := Option.bind_eq_some_iff.mp H
  obtain ⟨⟨t467, t470, t473⟩, A40, H⟩ := H
  replace H : ((impl_scene_all.f k t467 t470 t473).bind fun t476 => (some t476)) = some r := H
  have A4 := am_ A40
  clear A40
  replace H := Option.bind_eq_some_iff.mp H
  obtain ⟨t476, A50, H⟩ := H
  replace H : (some t476) = some r := H
  have A5 := am_ A50
  clear A50
  obtain rfl := Option.some.inj H
  go_enter Try.func9, Try.ntmps9
  go_wp2_with (first | ((with_reducible refine gate_dst (N := 1) rfl ?_); refine box_event ?hg (N := 1) ?hd (cs := #[.slice A0_0 l0_0.length c0_0]) (t := 32) ?hr ?_; (case hd => rfl); (case hg => rfl); (case hr => first | (go_simp; done) | (go_simp; rfl)); intro gb465 hg w6 hbox hb; have n0_ := am_ (Kd.V_below (Kd.V_elderB (vu HO0_0.out) gb465 (Nat.le_of_eq hg.symm)) hb); have n1_ := am_ (below_step z9_2 hb); have n2_ := am_ (hbox); have n3_ := am_ (by rw [hg]; exact (below_size z9_2) : w.heap.size ≤ gb465); have n4_ := am_ (by rw [hg]; exact (below_size z9_2) : w.heap.size ≤ gb465); clear HO0_0 HB; have HO0_0 := n0_; have HB := n1_; have BK465 := n2_; have GW465 := n3_; have GE465 := n4_; clear n0_ n1_ n2_ n3_ n4_; clear hb hbox hg; have hcz7_0 := cf0 BK465.out; have hfz7_0 := blk_frozen BK465.out 0) | ((with_reducible refine gate_callee (f := 19) rfl ?_); refine goesL_ (some 4) rfl rfl Try.func19 (by kernel_rfl) rfl #[.agg #[.slice A0_0 l0_0.length c0_0]] rfl (by (try simp only [List.map_toArray, List.map_cons, List.map_nil]); first | done | rfl | (simp only [List.length_drop, List.length_take]; rfl)) ?_; (with_reducible refine (impl_ProgOk.calls k _ _ l0_0 true _ ?side1 ?side2 A2.out).mono ?_); (case side1 => repeat (first | exact (Kd.V_reads' HO0_0.out).2.2 | (with_reducible refine Kd.C_alloc ?_ _) | (with_reducible refine Kd.C_drewN ?_ _) | (with_reducible refine Kd.C_drew ?_))); (case side2 => exact (Kd.V_reads' HO0_0.out).2.1); rintro e w8 ⟨rfl, hb⟩; refine ⟨_, rfl, ?_⟩; replace HO0_0 := am_ (Kd.V_below (vu HO0_0.out) hb); replace BK465 := am_ (blk_below (bu BK465.out) hb); replace HB := am_ (below_step z9_3 hb); (try clear hb); (try clear hb2); (try clear hk); (try clear hi); have hcz9_0 := cf0 BK465.out; have hfz9_0 := blk_frozen BK465.out 0) | ((with_reducible refine gate_callee (f := 20) rfl ?_); refine goesL_ (some 7) rfl rfl Try.func20 (by kernel_rfl) rfl #[.agg #[.slice A0_0 l0_0.length c0_0]] rfl (by (try simp only [List.map_toArray, List.map_cons, List.map_nil]); first | done | rfl | (simp only [List.length_drop, List.length_take]; rfl)) ?_; (with_reducible refine (impl_sceneOf.calls k (fun k_ => ((P0_0_ k_ ∨ w.heap.size ≤ k_) ∧ k_ ≠ gb465)) _ _ l0_0 t467 t470 t473 _ ?side1 A4.out).mono ?_); (case side1 => exact HO0_0.out); rintro e w10 ⟨v468, v471, v474, rfl, ho0, ho1, ho2, hb⟩; refine ⟨_, rfl, ?_⟩; replace HO0_0 := am_ (Kd.V_mono (Kd.V_told (Kd.V_told (Kd.V_old (vu HO0_0.out) hb) (Kd.R_base ho1)) (Kd.R_base ho2)) (fun _ h_ => h_.1)); have HO469 := am_ (Kd.V_lower (Kd.V_mono (ok' := fun k_ => (P0_0_ k_ ∨ w.heap.size ≤ k_) ∧ some k_ ≠ (v471 : Value).ownBlock ∧ some k_ ≠ (v474 : Value).ownBlock ∧ k_ ≠ gb465) ho0 (fun k_ hk_ => ⟨Or.elim hk_.1 (fun hs_ => hs_.1) (fun hn_ => (.inr (Nat.le_trans (below_size z9_3) hn_))), hk_.2.1, hk_.2.2, Or.elim hk_.1 (fun hs_ => hs_.2) (fun hn_ => (Kd.freshB (bu BK465.out) k_ hn_))⟩)) (below_size z9_3)); have HO472 := am_ (Kd.R_lower (Kd.R_newM (M := fun k_ => (w.heap.size ≤ k_)) (Kd.R_mono (ok' := fun k_ => True) ho1 (fun _ hk_ => trivial)) (below_size z9_3) (fun k_ h_ => h_)) (below_size z9_3)); have HO475 := am_ (Kd.R_lower (Kd.R_newM (M := fun k_ => (w.heap.size ≤ k_)) (Kd.R_mono (ok' := fun k_ => True) ho2 (fun _ hk_ => trivial)) (below_size z9_3) (fun k_ h_ => h_)) (below_size z9_3)); replace BK465 := am_ (blk_below (bu BK465.out) hb); replace HB := am_ (below_step z9_3 hb); (try clear hb); (try clear hb2); (try clear hk); (try clear hi); (try clear ho0); (try clear ho1); (try clear ho2); obtain ⟨Ao11, co11, eo11⟩ := Kd.V_slice HO469.out; subst eo11; obtain ⟨Ao12, co12, eo12⟩ := Kd.R_slice HO472.out; subst eo12; obtain ⟨Ao13, co13, eo13⟩ := Kd.R_slice HO475.out; subst eo13) | ((with_reducible refine gate_callee (f := 21) rfl ?_); refine goesL_ (some 8) rfl rfl Try.func21 (by kernel_rfl) rfl #[.agg #[.slice Ao11 t467.length co11, .slice Ao12 t470.length co12, .slice Ao13 t473.length co13]] rfl (by (try simp only [List.map_toArray, List.map_cons, List.map_nil]); first | done | rfl | (simp only [List.length_drop, List.length_take]; rfl)) ?_; (with_reducible refine (impl_scene_all.calls k _ _ t467 _ _ t470 _ _ t473 t476 _ ?side1 ?side2 ?side3 ?side4 ?side5 ?side6 A5.out).mono ?_); (case side1 => repeat (first | exact (Kd.V_reads' HO469.out).2.2 | (with_reducible refine Kd.C_alloc ?_ _) | (with_reducible refine Kd.C_drewN ?_ _) | (with_reducible refine Kd.C_drew ?_))); (case side2 => exact (Kd.V_reads' HO469.out).2.1); (case side3 => repeat (first | exact (Kd.R_reads' HO472.out).2.2 | (with_reducible refine Kd.C_alloc ?_ _) | (with_reducible refine Kd.C_drewN ?_ _) | (with_reducible refine Kd.C_drew ?_))); (case side4 => exact (Kd.R_reads' HO472.out).2.1); (case side5 => repeat (first | exact (Kd.R_reads' HO475.out).2.2 | (with_reducible refine Kd.C_alloc ?_ _) | (with_reducible refine Kd.C_drewN ?_ _) | (with_reducible refine Kd.C_drew ?_))); (case side6 => exact (Kd.R_reads' HO475.out).2.1); rintro e w14 ⟨v477, rfl, ho0, hb⟩; refine ⟨_, rfl, ?_⟩; have n0_ := am_ (Kd.V_elder' (vu HO0_0.out) (by first | exact Kd.N_base ho0 | exact Kd.S_base ho0) hb); have n1_ := am_ (Kd.V_elder' (vu HO469.out) (by first | exact Kd.N_base ho0 | exact Kd.S_base ho0) hb); have n2_ := am_ (Kd.R_below (ru HO472.out) hb); have n3_ := am_ (Kd.R_below (ru HO475.out) hb); have n4_ := am_ (Kd.N_lower (Kd.N_mono (ok' := fun k_ => (P0_0_ k_ ∨ w.heap.size ≤ k_) ∧ some k_ ≠ (.slice Ao12 t470.length co12 : Value).ownBlock ∧ some k_ ≠ (.slice Ao13 t473.length co13 : Value).ownBlock ∧ k_ ≠ gb465) ho0 (fun k_ hk_ => ⟨(.inr (Nat.le_trans (below_size z9_3) hk_)), (Kd.fresh' (Kd.R_lt (ru HO472.out)) k_ hk_), (Kd.fresh' (Kd.R_lt (ru HO475.out)) k_ hk_), (Kd.freshB (bu BK465.out) k_ hk_)⟩)) (below_size z9_3)); have n5_ := am_ (blk_below (bu BK465.out) hb); have n6_ := am_ (below_step z9_3 hb); clear HO0_0 HO469 HO472 HO475 BK465 HB; have HO0_0 := n0_; have HO469 := n1_; have HO472 := n2_; have HO475 := n3_; have HO478 := n4_; have BK465 := n5_; have HB := n6_; clear n0_ n1_ n2_ n3_ n4_ n5_ n6_; (try clear hb); (try clear hb2); (try clear hk); (try clear hi); (try clear ho0)))
  go_ret
  exact ⟨_, z9_1, nu (Kd.N_mono HO478.out (fun _ hk => hk.1)), z9_3⟩
 replace c3 := Bool.eq_false_iff.mpr c3
 subst c3
 have H1 : (some ([] : List (S40))) = some r := by rw [if_neg (show ¬ (false = true) by decide)] at H; exact H
 clear H
 have H := H1
 clear H1
 obtain rfl := Option.some.inj H
 go_enter Try.func9, Try.ntmps9
 go_wp2_with (first | ((with_reducible refine gate_dst (N := 1) rfl ?_); refine box_event ?hg (N := 1) ?hd (cs := #[.slice A0_0 l0_0.length c0_0]) (t := 32) ?hr ?_; (case hd => rfl); (case hg => rfl); (case hr => first | (go_simp; done) | (go_simp; rfl)); intro gb465 hg w15 hbox hb; have n0_ := am_ (Kd.V_below (Kd.V_elderB (vu HO0_0.out) gb465 (Nat.le_of_eq hg.symm)) hb); have n1_ := am_ (below_step z9_2 hb); have n2_ := am_ (hbox); have n3_ := am_ (by rw [hg]; exact (below_size z9_2) : w.heap.size ≤ gb465); have n4_ := am_ (by rw [hg]; exact (below_size z9_2) : w.heap.size ≤ gb465); clear HO0_0 HB; have HO0_0 := n0_; have HB := n1_; have BK465 := n2_; have GW465 := n3_; have GE465 := n4_; clear n0_ n1_ n2_ n3_ n4_; clear hb hbox hg; have hcz16_0 := cf0 BK465.out; have hfz16_0 := blk_frozen BK465.out 0) | ((with_reducible refine gate_callee (f := 19) rfl ?_); refine goesL_ (some 4) rfl rfl Try.func19 (by kernel_rfl) rfl #[.agg #[.slice A0_0 l0_0.length c0_0]] rfl (by (try simp only [List.map_toArray, List.map_cons, List.map_nil]); first | done | rfl | (simp only [List.length_drop, List.length_take]; rfl)) ?_; (with_reducible refine (impl_ProgOk.calls k _ _ l0_0 false _ ?side1 ?side2 A2.out).mono ?_); (case side1 => repeat (first | exact (Kd.V_reads' HO0_0.out).2.2 | (with_reducible refine Kd.C_alloc ?_ _) | (with_reducible refine Kd.C_drewN ?_ _) | (with_reducible refine Kd.C_drew ?_))); (case side2 => exact (Kd.V_reads' HO0_0.out).2.1); rintro e w17 ⟨rfl, hb⟩; refine ⟨_, rfl, ?_⟩; replace HO0_0 := am_ (Kd.V_below (vu HO0_0.out) hb); replace BK465 := am_ (blk_below (bu BK465.out) hb); replace HB := am_ (below_step z9_3 hb); (try clear hb); (try clear hb2); (try clear hk); (try clear hi)))
 go_ret
 exact ⟨_, z9_1, by first | exact Kd.R_nil _ _ _ _ _ | exact Kd.N_nil _ _ _ _ _ | exact Kd.V_nil _ _ _ _ _ | exact Kd.Q_nil _ _ _ _ _ | exact Kd.S_nil _ _ _ _ _, z9_3⟩

end Go.Proofs.Ytmkchdlkpbnldaa.PB

namespace Go.Proofs.Ytmkchdlkpbnldaa.PB
open Go.RowKit Go.Proofs.YtmkchdlkpbnldaaW.PrintWords Go.Proofs.YtmkchdlkpbnldaaW.PrintLast Go.Proofs.YtmkchdlkpbnldaaW.PrintMore
attribute [local go_sem] max2_int min2_int max_two min_two max_three min_three max_four min_four   -- for this text's walks alone
open Go.Proofs.YtmkchdlkpbnldaaMine
set_option linter.unusedVariables false
set_option linter.unusedSimpArgs false

theorem z22_1 {p : Prop} (h : p := by first | rfl | (simp [errW_none, errW_some] <;> rfl) | (simp [*, errW_none, errW_some] <;> rfl)) : p := h
theorem z22_2 {p : Prop} (h : p := by repeat (first | (with_reducible first | exact HB.out | apply below_alloc | apply pw_below_drewN | apply below_drew1) | exact HB.out)) : p := h
theorem z22_3 {p : Prop} (h : p := by repeat (first | (with_reducible first | exact HB.out | apply below_alloc | apply pw_below_drewN | apply below_drew1 | refine below_set ?_ GE479.out) | exact HB.out)) : p := h
theorem z22_4 {p : Prop} (h : p := by repeat (first | (with_reducible first | exact HB.out | apply below_alloc | apply pw_below_drewN | apply below_drew1 | refine below_set ?_ GE479.out | refine below_set ?_ GE480.out) | exact HB.out)) : p := h
/-! ### impl_ExecOk: function 22 -/
def impl_ExecOk.f (k : Nat) (l0_0 : List (List (S70))) (l1_0 : List Int) (l1_1 : List (List Int)) : Option (Bool) := (impl_ProgOk.f k l0_0).bind fun t481 => (if t481 = true then ((impl_sceneOf.f k l0_0).bind fun bt482 => ((impl_scene_ok.f k bt482.1 bt482.2.1 bt482.2.2 l1_0 l1_1).bind fun t491 => (some t491))) else (some false))
def impl_ExecOk.T1 : Bool × List (List Nat × List Nat) := (true, [([], []), ([0], [0]), ([1, 1], [1]), ([2], [2]), ([3, 2, 2], [2, 3]), ([2], [2]), ([4, 5, 4, 2], [2, 4, 5]), ([2, 6], [2, 6]), ([7, 6, 0, 1, 2, 3, 4, 5, 6, 7], [7])])
def impl_ExecOk.B1 : List Nat := [0, 1, 3, 7, 15, 7, 63, 127, 255]
theorem impl_ExecOk.tab1 : rtab .any (opsOf Try.f22 1) = impl_ExecOk.T1 := by kernel_rfl
theorem impl_ExecOk.bits1 : waitsOk impl_ExecOk.T1.2 impl_ExecOk.B1 = true := by kernel_rfl
set_option maxHeartbeats 8000000 in
set_option maxRecDepth 100000 in
theorem impl_ExecOk.calls (k : Nat) (A0_0 : Option Addr) (c0_0 : Nat) (l0_0 : List (List (S70))) (A1_0 : Option Addr) (c1_0 : Nat) (l1_0 : List Int) (A1_1 : Option Addr) (c1_1 : Nat) (l1_1 : List (List Int)) (r : Bool) (w : World) (hr0_0 : Kd.C (Kd.slice 70 k70) w A0_0 l0_0.length l0_0) (hc0_0 : l0_0.length ≤ c0_0) (hr1_0 : Kd.C (Kd.int .i64) w A1_0 l1_0.length l1_0) (hc1_0 : l1_0.length ≤ c1_0) (hr1_1 : Kd.C (Kd.slice 3 (Kd.int .i64)) w A1_1 l1_1.length l1_1) (hc1_1 : l1_1.length ≤ c1_1) (h : impl_ExecOk.f k l0_0 l1_0 l1_1 = some r) :
  Calls Try.prog 22 #[.agg #[.slice A0_0 l0_0.length c0_0], .agg #[.slice A1_0 l1_0.length c1_0, .slice A1_1 l1_1.length c1_1]] w fun e w' => e = .returned (.bool r) ∧ Below w.heap.size w w' := by
 have hu32 := Try.underlying32
 have hu40 := Try.underlying40
 have HR0_0 := am_ hr0_0
 have HC0_0 := am_ hc0_0
 clear hr0_0 hc0_0
 have HR1_0 := am_ hr1_0
 have HC1_0 := am_ hc1_0
 clear hr1_0 hc1_0
 have HR1_1 := am_ hr1_1
 have HC1_1 := am_ hc1_1
 clear hr1_1 hc1_1
 have HB := am_ (Below.refl w.heap.size w)
 have H : ((impl_ProgOk.f k l0_0).bind fun t481 => (if t481 = true then ((impl_sceneOf.f k l0_0).bind fun bt482 => ((impl_scene_ok.f k bt482.1 bt482.2.1 bt482.2.2 l1_0 l1_1).bind fun t491 => (some t491))) else (some false))) = some r := h
 clear h
 replace H := Option.bind_eq_some_iff.mp H
 obtain ⟨t481, A30, H⟩ := H
 replace H : (if t481 = true then ((impl_sceneOf.f k l0_0).bind fun bt482 => ((impl_scene_ok.f k bt482.1 bt482.2.1 bt482.2.2 l1_0 l1_1).bind fun t491 => (some t491))) else (some false)) = some r := H
 have A3 := am_ A30
 clear A30
 by_cases c4 : t481 = true
 ·subst c4
  have H1 : ((impl_sceneOf.f k l0_0).bind fun bt482 => ((impl_scene_ok.f k bt482.1 bt482.2.1 bt482.2.2 l1_0 l1_1).bind fun t491 => (some t491))) = some r := by rw [if_pos rfl] at H; exact H
  clear H
  have H := H1
  clear H1
  replace H := Option.bind_eq_some_iff.mp H
  obtain ⟨⟨t482, t485, t488⟩, A50, H⟩ := H
  replace H : ((impl_scene_ok.f k t482 t485 t488 l1_0 l1_1).bind fun t491 => (some t491)) = some r := H
  have A5 := am_ A50
  clear A50
  replace H := Option.bind_eq_some_iff.mp H
  obtain ⟨t491, A60, H⟩ := H
  replace H : (some t491) = some r := H
  have A6 := am_ A60
  clear A60
  obtain rfl := Option.some.inj H
  go_enter Try.func22, Try.ntmps22
  try go_wp2_with (first | ((with_reducible refine gate_dst (N := 2) rfl ?_); refine box_event ?hg (N := 2) ?hd (cs := #[.slice A0_0 l0_0.length c0_0]) (t := 32) ?hr ?_; (case hd => rfl); (case hg => rfl); (case hr => first | (go_simp; done) | (go_simp; rfl)); intro gb479 hg w7 hbox hb; have n0_ := am_ (below_step z22_2 hb); have n1_ := am_ (hbox); have n2_ := am_ (by rw [hg]; exact (below_size z22_2) : w.heap.size ≤ gb479); have n3_ := am_ (by rw [hg]; exact (below_size z22_2) : w.heap.size ≤ gb479); clear HB; have HB := n0_; have BK479 := n1_; have GW479 := n2_; have GE479 := n3_; clear n0_ n1_ n2_ n3_; clear hb hbox hg) | ((with_reducible refine gate_dst (N := 3) rfl ?_); refine box_event ?hg (N := 3) ?hd (cs := #[.slice A1_0 l1_0.length c1_0, .slice A1_1 l1_1.length c1_1]) (t := 40) ?hr ?_; (case hd => rfl); (case hg => rfl); (case hr => first | (go_simp; done) | (go_simp; rfl)); intro gb480 hg w8 hbox hb; have n0_ := am_ (blk_below (bu BK479.out) hb); have n1_ := am_ (below_step z22_3 hb); have n2_ := am_ (hbox); have n3_ := am_ (by rw [hg]; exact (below_size z22_3) : w.heap.size ≤ gb480); have n4_ := am_ (by rw [hg]; exact (below_size z22_3) : w.heap.size ≤ gb480); have n5_ := am_ (by rw [hg]; exact Nat.ne_of_lt (blk_lt (bu BK479.out)) : gb479 ≠ gb480); have n6_ := am_ (by rw [hg]; exact Nat.ne_of_gt (blk_lt (bu BK479.out)) : gb480 ≠ gb479); clear BK479 HB; have BK479 := n0_; have HB := n1_; have BK480 := n2_; have GW480 := n3_; have GE480 := n4_; have NB479_480 := n5_; have NB480_479 := n6_; clear n0_ n1_ n2_ n3_ n4_ n5_ n6_; clear hb hbox hg))
  replace BK479 := am_ (blk_drew BK479.out)
  replace BK480 := am_ (blk_drew BK480.out)
  replace HB := am_ (below_drew1 HB.out)
  refine start_ (n := 9) (S := fun w' => w'.cell? ⟨gb479, 0, none⟩ = some (.slice A0_0 l0_0.length c0_0) ∧ w'.cell? ⟨gb480, 0, none⟩ = some (.slice A1_0 l1_0.length c1_0) ∧ w'.cell? ⟨gb480, 1, none⟩ = some (.slice A1_1 l1_1.length c1_1)) (ds := []) #[false, false, false, false, false, false, false, false, false] (by kernel_rfl) rfl rfl ⟨(blk_cell BK479.out 0).trans rfl, (blk_cell BK480.out 0).trans rfl, (blk_cell BK480.out 1).trans rfl⟩ (fun hHeld => ?_); refine with_tabW impl_ExecOk.tab1 impl_ExecOk.bits1 (fun HT_ HW_ => ?_)
  generalize w8.drew = w9 at BK479 BK480 HB hHeld ⊢
  refine take_ (i := 0) (N := some 5) (v := ?_) (a' := ?_) #[true, false, false, false, false, false, false, false, false] rfl rfl (take_ofW HT_.out HW_.out (by kernel_rfl)) (fun _ _ _ h => h) (Or.inl ⟨by rfl, ?_⟩) hHeld ?_ ?_
  rotate_left
  ·rintro w' ⟨s0, s1, s2⟩
   go_simp
   with_reducible rfl
  rotate_left
  ·simp only [Act.put, List.setIfInBounds_toArray, List.set_cons_zero, List.set_cons_succ, i64_w, i32_w]
   rfl
  refine one_ (i := 1) (N := some 6) #[true, true, false, false, false, false, false, false, false] rfl rfl (one_of HT_.out (by kernel_rfl)) (by decide) (fun K hK => ?_)
  refine goes_ Try.func19 (by kernel_rfl) rfl #[.agg #[.slice A0_0 l0_0.length c0_0]] (by rfl) rfl rfl (by (try simp only [List.map_toArray, List.map_cons, List.map_nil]); first | done | rfl | (simp only [List.length_drop, List.length_take]; rfl)) ?_
  with_reducible refine (impl_ProgOk.calls k _ _ l0_0 true _ ?side1 ?side2 A3.out).mono ?_
  (case side1 => repeat (first | exact (Kd.C_below HR0_0.out HB.out) | (with_reducible refine Kd.C_alloc ?_ _) | (with_reducible refine Kd.C_drewN ?_ _) | (with_reducible refine Kd.C_drew ?_)))
  (case side2 => exact HC0_0.out)
  rintro e w10 ⟨rfl, hb⟩
  refine ⟨_, rfl, ?_⟩
  replace BK479 := am_ (blk_below (bu BK479.out) hb)
  replace BK480 := am_ (blk_below (bu BK480.out) hb)
  replace HB := am_ (below_step z22_4 hb)
  (try clear hb)
  (try clear hb2)
  (try clear hk)
  (try clear hi)
  refine hK.out _ _ ⟨(blk_cell BK479.out 0).trans rfl, (blk_cell BK480.out 0).trans rfl, (blk_cell BK480.out 1).trans rfl⟩ (fun hHeld => ?_)
  clear hK K
  refine norm_ (a' := ?_) ?_ ?_
  rotate_left
  ·show Act.put _ (some 6) _ = _
   simp only [Act.put, List.setIfInBounds_toArray, List.set_cons_zero, List.set_cons_succ, i64_w, i32_w]
   rfl
  refine pure_ (i := 2) (N := some 7) (v := ?_) (a' := ?_) #[true, true, true, false, false, false, false, false, false] rfl rfl (any_of HT_.out (by kernel_rfl)) (fun _ _ _ h => h) (Or.inl ⟨by rfl, ?_⟩) ?_ ?_
  rotate_left
  ·intro w'
   go_simp
   with_reducible rfl
  rotate_left
  ·simp only [Act.put, List.setIfInBounds_toArray, List.set_cons_zero, List.set_cons_succ, i64_w, i32_w]
   rfl
  refine take_ (i := 3) (N := some 8) (v := ?_) (a' := ?_) #[true, true, true, true, false, false, false, false, false] rfl rfl (take_ofW HT_.out HW_.out (by kernel_rfl)) (fun _ _ _ h => h) (Or.inl ⟨by rfl, ?_⟩) hHeld ?_ ?_
  rotate_left
  ·rintro w' ⟨s0, s1, s2⟩
   go_simp
   with_reducible rfl
  rotate_left
  ·simp only [Act.put, List.setIfInBounds_toArray, List.set_cons_zero, List.set_cons_succ, i64_w, i32_w]
   rfl
  refine take_ (i := 5) (N := some 10) (v := ?_) (a' := ?_) #[true, true, true, true, false, true, false, false, false] rfl rfl (take_ofW HT_.out HW_.out (by kernel_rfl)) (fun _ _ _ h => h) (Or.inl ⟨by rfl, ?_⟩) hHeld ?_ ?_
  rotate_left
  ·rintro w' ⟨s0, s1, s2⟩
   go_simp
   with_reducible rfl
  rotate_left
  ·simp only [Act.put, List.setIfInBounds_toArray, List.set_cons_zero, List.set_cons_succ, i64_w, i32_w]
   rfl
  refine one_ (i := 4) (N := some 9) #[true, true, true, true, true, true, false, false, false] rfl rfl (one_of HT_.out (by kernel_rfl)) (by decide) (fun K hK => ?_)
  refine goes_ Try.func20 (by kernel_rfl) rfl #[.agg #[.slice A0_0 l0_0.length c0_0]] (by rfl) rfl rfl (by (try simp only [List.map_toArray, List.map_cons, List.map_nil]); first | done | rfl | (simp only [List.length_drop, List.length_take]; rfl)) ?_
  with_reducible refine (impl_sceneOf.calls k (fun k_ => k_ < w.heap.size) _ _ l0_0 t482 t485 t488 _ ?side1 A5.out).mono ?_
  (case side1 => exact Kd.V_mk HC0_0.out (Kd.F_below (Kd.C_F (Kd.heap_slice 70 k70_heap) HR0_0.out) z22_4))
  rintro e w11 ⟨v483, v486, v489, rfl, ho0, ho1, ho2, hb⟩
  refine ⟨_, rfl, ?_⟩
  have HO484 := am_ (Kd.V_lower (Kd.V_mono (ok' := fun k_ => some k_ ≠ (v486 : Value).ownBlock ∧ some k_ ≠ (v489 : Value).ownBlock ∧ k_ ≠ gb479 ∧ k_ ≠ gb480) ho0 (fun k_ hk_ => ⟨hk_.2.1, hk_.2.2, Or.elim hk_.1 (fun hs_ => fun e_ => Nat.not_le.2 hs_ (by rw [e_]; exact GW479.out)) (fun hn_ => (Kd.freshB (bu BK479.out) k_ hn_)), Or.elim hk_.1 (fun hs_ => fun e_ => Nat.not_le.2 hs_ (by rw [e_]; exact GW480.out)) (fun hn_ => (Kd.freshB (bu BK480.out) k_ hn_))⟩)) (below_size z22_4))
  have HO487 := am_ (Kd.R_lower (Kd.R_mono (ok' := fun k_ => True) ho1 (fun _ hk_ => trivial)) (below_size z22_4))
  have HO490 := am_ (Kd.R_lower (Kd.R_mono (ok' := fun k_ => True) ho2 (fun _ hk_ => trivial)) (below_size z22_4))
  replace BK479 := am_ (blk_below (bu BK479.out) hb)
  replace BK480 := am_ (blk_below (bu BK480.out) hb)
  replace HB := am_ (below_step z22_4 hb)
  (try clear hb)
  (try clear hb2)
  (try clear hk)
  (try clear hi)
  (try clear ho0)
  (try clear ho1)
  (try clear ho2)
  obtain ⟨Ao12, co12, eo12⟩ := Kd.V_slice HO484.out
  (first | subst eo12 | (injection eo12 with f1_ f2_ f3_; have f4_ := f1_.symm; have f5_ := f3_.symm; clear f1_ f2_ f3_; subst f4_; subst f5_))
  obtain ⟨Ao13, co13, eo13⟩ := Kd.R_slice HO487.out
  (first | subst eo13 | (injection eo13 with f1_ f2_ f3_; have f4_ := f1_.symm; have f5_ := f3_.symm; clear f1_ f2_ f3_; subst f4_; subst f5_))
  obtain ⟨Ao14, co14, eo14⟩ := Kd.R_slice HO490.out
  (first | subst eo14 | (injection eo14 with f1_ f2_ f3_; have f4_ := f1_.symm; have f5_ := f3_.symm; clear f1_ f2_ f3_; subst f4_; subst f5_))
  refine hK.out _ _ ⟨(blk_cell BK479.out 0).trans rfl, (blk_cell BK480.out 0).trans rfl, (blk_cell BK480.out 1).trans rfl⟩ (fun hHeld => ?_)
  clear hK K
  refine norm_ (a' := ?_) ?_ ?_
  rotate_left
  ·show Act.put _ (some 9) _ = _
   simp only [Act.put, List.setIfInBounds_toArray, List.set_cons_zero, List.set_cons_succ, i64_w, i32_w]
   rfl
  refine one_ (i := 6) (N := some 11) #[true, true, true, true, true, true, true, false, false] rfl rfl (one_of HT_.out (by kernel_rfl)) (by decide) (fun K hK => ?_)
  refine goes_ Try.func38 (by kernel_rfl) rfl #[.agg #[.slice Ao12 t482.length co12, .slice Ao13 t485.length co13, .slice Ao14 t488.length co14], .agg #[.slice A1_0 l1_0.length c1_0, .slice A1_1 l1_1.length c1_1]] (by rfl) rfl rfl (by (try simp only [List.map_toArray, List.map_cons, List.map_nil]); first | done | rfl | (simp only [List.length_drop, List.length_take]; rfl)) ?_
  with_reducible refine (impl_scene_ok.calls k _ _ t482 _ _ t485 _ _ t488 _ _ l1_0 _ _ l1_1 t491 _ ?side1 ?side2 ?side3 ?side4 ?side5 ?side6 ?side7 ?side8 ?side9 ?side10 A6.out).mono ?_
  (case side1 => repeat (first | exact (Kd.V_reads' HO484.out).2.2 | (with_reducible refine Kd.C_alloc ?_ _) | (with_reducible refine Kd.C_drewN ?_ _) | (with_reducible refine Kd.C_drew ?_)))
  (case side2 => exact (Kd.V_reads' HO484.out).2.1)
  (case side3 => repeat (first | exact (Kd.R_reads' HO487.out).2.2 | (with_reducible refine Kd.C_alloc ?_ _) | (with_reducible refine Kd.C_drewN ?_ _) | (with_reducible refine Kd.C_drew ?_)))
  (case side4 => exact (Kd.R_reads' HO487.out).2.1)
  (case side5 => repeat (first | exact (Kd.R_reads' HO490.out).2.2 | (with_reducible refine Kd.C_alloc ?_ _) | (with_reducible refine Kd.C_drewN ?_ _) | (with_reducible refine Kd.C_drew ?_)))
  (case side6 => exact (Kd.R_reads' HO490.out).2.1)
  (case side7 => repeat (first | exact (Kd.C_below HR1_0.out HB.out) | (with_reducible refine Kd.C_alloc ?_ _) | (with_reducible refine Kd.C_drewN ?_ _) | (with_reducible refine Kd.C_drew ?_)))
  (case side8 => exact HC1_0.out)
  (case side9 => repeat (first | exact (Kd.C_below HR1_1.out HB.out) | (with_reducible refine Kd.C_alloc ?_ _) | (with_reducible refine Kd.C_drewN ?_ _) | (with_reducible refine Kd.C_drew ?_)))
  (case side10 => exact HC1_1.out)
  rintro e w15 ⟨rfl, hb⟩
  refine ⟨_, rfl, ?_⟩
  replace HO484 := am_ (Kd.V_below (vu HO484.out) hb)
  replace HO487 := am_ (Kd.R_below (ru HO487.out) hb)
  replace HO490 := am_ (Kd.R_below (ru HO490.out) hb)
  replace BK479 := am_ (blk_below (bu BK479.out) hb)
  replace BK480 := am_ (blk_below (bu BK480.out) hb)
  replace HB := am_ (below_step z22_4 hb)
  (try clear hb)
  (try clear hb2)
  (try clear hk)
  (try clear hi)
  refine hK.out _ _ ⟨(blk_cell BK479.out 0).trans rfl, (blk_cell BK480.out 0).trans rfl, (blk_cell BK480.out 1).trans rfl⟩ (fun hHeld => ?_)
  clear hK K
  refine norm_ (a' := ?_) ?_ ?_
  rotate_left
  ·show Act.put _ (some 11) _ = _
   simp only [Act.put, List.setIfInBounds_toArray, List.set_cons_zero, List.set_cons_succ, i64_w, i32_w]
   rfl
  refine pure_ (i := 7) (N := some 12) (v := ?_) (a' := ?_) #[true, true, true, true, true, true, true, true, false] rfl rfl (any_of HT_.out (by kernel_rfl)) (fun _ _ _ h => h) (Or.inl ⟨by rfl, ?_⟩) ?_ ?_
  rotate_left
  ·intro w'
   go_simp
   with_reducible rfl
  rotate_left
  ·simp only [Act.put, List.setIfInBounds_toArray, List.set_cons_zero, List.set_cons_succ, i64_w, i32_w]
   rfl
  refine pure_ (i := 8) (N := some 4) (v := ?_) (a' := ?_) #[true, true, true, true, true, true, true, true, true] rfl rfl (any_of HT_.out (by kernel_rfl)) (fun _ _ _ h => h) (Or.inl ⟨by rfl, ?_⟩) ?_ ?_
  rotate_left
  ·intro w'
   go_simp
   with_reducible rfl
  rotate_left
  ·simp only [Act.put, List.setIfInBounds_toArray, List.set_cons_zero, List.set_cons_succ, i64_w, i32_w]
   rfl
  refine done_ (done_of HT_.out (by kernel_rfl)) ?_
  try go_wp2
  go_ret
  exact ⟨z22_1, z22_4⟩
 replace c4 := Bool.eq_false_iff.mpr c4
 subst c4
 have H1 : (some false) = some r := by rw [if_neg (show ¬ (false = true) by decide)] at H; exact H
 clear H
 have H := H1
 clear H1
 obtain rfl := Option.some.inj H
 go_enter Try.func22, Try.ntmps22
 try go_wp2_with (first | ((with_reducible refine gate_dst (N := 2) rfl ?_); refine box_event ?hg (N := 2) ?hd (cs := #[.slice A0_0 l0_0.length c0_0]) (t := 32) ?hr ?_; (case hd => rfl); (case hg => rfl); (case hr => first | (go_simp; done) | (go_simp; rfl)); intro gb479 hg w16 hbox hb; have n0_ := am_ (below_step z22_2 hb); have n1_ := am_ (hbox); have n2_ := am_ (by rw [hg]; exact (below_size z22_2) : w.heap.size ≤ gb479); have n3_ := am_ (by rw [hg]; exact (below_size z22_2) : w.heap.size ≤ gb479); clear HB; have HB := n0_; have BK479 := n1_; have GW479 := n2_; have GE479 := n3_; clear n0_ n1_ n2_ n3_; clear hb hbox hg) | ((with_reducible refine gate_dst (N := 3) rfl ?_); refine box_event ?hg (N := 3) ?hd (cs := #[.slice A1_0 l1_0.length c1_0, .slice A1_1 l1_1.length c1_1]) (t := 40) ?hr ?_; (case hd => rfl); (case hg => rfl); (case hr => first | (go_simp; done) | (go_simp; rfl)); intro gb480 hg w17 hbox hb; have n0_ := am_ (blk_below (bu BK479.out) hb); have n1_ := am_ (below_step z22_3 hb); have n2_ := am_ (hbox); have n3_ := am_ (by rw [hg]; exact (below_size z22_3) : w.heap.size ≤ gb480); have n4_ := am_ (by rw [hg]; exact (below_size z22_3) : w.heap.size ≤ gb480); have n5_ := am_ (by rw [hg]; exact Nat.ne_of_lt (blk_lt (bu BK479.out)) : gb479 ≠ gb480); have n6_ := am_ (by rw [hg]; exact Nat.ne_of_gt (blk_lt (bu BK479.out)) : gb480 ≠ gb479); clear BK479 HB; have BK479 := n0_; have HB := n1_; have BK480 := n2_; have GW480 := n3_; have GE480 := n4_; have NB479_480 := n5_; have NB480_479 := n6_; clear n0_ n1_ n2_ n3_ n4_ n5_ n6_; clear hb hbox hg))
 replace BK479 := am_ (blk_drew BK479.out)
 replace BK480 := am_ (blk_drew BK480.out)
 replace HB := am_ (below_drew1 HB.out)
 refine start_ (n := 9) (S := fun w' => w'.cell? ⟨gb479, 0, none⟩ = some (.slice A0_0 l0_0.length c0_0)) (ds := []) #[false, false, false, false, false, false, false, false, false] (by kernel_rfl) rfl rfl ((blk_cell BK479.out 0).trans rfl) (fun hHeld => ?_); refine with_tabW impl_ExecOk.tab1 impl_ExecOk.bits1 (fun HT_ HW_ => ?_)
 generalize w17.drew = w18 at BK479 BK480 HB hHeld ⊢
 refine take_ (i := 0) (N := some 5) (v := ?_) (a' := ?_) #[true, false, false, false, false, false, false, false, false] rfl rfl (take_ofW HT_.out HW_.out (by kernel_rfl)) (fun _ _ _ h => h) (Or.inl ⟨by rfl, ?_⟩) hHeld ?_ ?_
 rotate_left
 ·intro w' s0
  go_simp
  with_reducible rfl
 rotate_left
 ·simp only [Act.put, List.setIfInBounds_toArray, List.set_cons_zero, List.set_cons_succ, i64_w, i32_w]
  rfl
 refine one_ (i := 1) (N := some 6) #[true, true, false, false, false, false, false, false, false] rfl rfl (one_of HT_.out (by kernel_rfl)) (by decide) (fun K hK => ?_)
 refine goes_ Try.func19 (by kernel_rfl) rfl #[.agg #[.slice A0_0 l0_0.length c0_0]] (by rfl) rfl rfl (by (try simp only [List.map_toArray, List.map_cons, List.map_nil]); first | done | rfl | (simp only [List.length_drop, List.length_take]; rfl)) ?_
 with_reducible refine (impl_ProgOk.calls k _ _ l0_0 false _ ?side1 ?side2 A3.out).mono ?_
 (case side1 => repeat (first | exact (Kd.C_below HR0_0.out HB.out) | (with_reducible refine Kd.C_alloc ?_ _) | (with_reducible refine Kd.C_drewN ?_ _) | (with_reducible refine Kd.C_drew ?_)))
 (case side2 => exact HC0_0.out)
 rintro e w19 ⟨rfl, hb⟩
 refine ⟨_, rfl, ?_⟩
 replace BK479 := am_ (blk_below (bu BK479.out) hb)
 replace BK480 := am_ (blk_below (bu BK480.out) hb)
 replace HB := am_ (below_step z22_4 hb)
 (try clear hb)
 (try clear hb2)
 (try clear hk)
 (try clear hi)
 refine hK.out _ _ ((blk_cell BK479.out 0).trans rfl) (fun hHeld => ?_)
 clear hK K
 refine norm_ (a' := ?_) ?_ ?_
 rotate_left
 ·show Act.put _ (some 6) _ = _
  simp only [Act.put, List.setIfInBounds_toArray, List.set_cons_zero, List.set_cons_succ, i64_w, i32_w]
  rfl
 refine pure_ (i := 2) (N := some 7) (v := ?_) (a' := ?_) #[true, true, true, false, false, false, false, false, false] rfl rfl (any_of HT_.out (by kernel_rfl)) (fun _ _ _ h => h) (Or.inl ⟨by rfl, ?_⟩) ?_ ?_
 rotate_left
 ·intro w'
  go_simp
  with_reducible rfl
 rotate_left
 ·simp only [Act.put, List.setIfInBounds_toArray, List.set_cons_zero, List.set_cons_succ, i64_w, i32_w]
  rfl
 refine pure_ (i := 3) (N := some 8) (v := undef) (a' := ?_) #[true, true, true, true, false, false, false, false, false] rfl rfl (any_of HT_.out (by kernel_rfl)) (fun _ _ _ h => h) (Or.inr ⟨by rfl, rfl⟩) ?_ ?_
 rotate_left
 ·simp only [Act.put, List.setIfInBounds_toArray, List.set_cons_zero, List.set_cons_succ, i64_w, i32_w]
  rfl
 refine pure_ (i := 4) (N := some 9) (v := undef) (a' := ?_) #[true, true, true, true, true, false, false, false, false] rfl rfl (any_of HT_.out (by kernel_rfl)) (fun _ _ _ h => h) (Or.inr ⟨by rfl, rfl⟩) ?_ ?_
 rotate_left
 ·simp only [Act.put, List.setIfInBounds_toArray, List.set_cons_zero, List.set_cons_succ, i64_w, i32_w]
  rfl
 refine pure_ (i := 5) (N := some 10) (v := undef) (a' := ?_) #[true, true, true, true, true, true, false, false, false] rfl rfl (any_of HT_.out (by kernel_rfl)) (fun _ _ _ h => h) (Or.inr ⟨by rfl, rfl⟩) ?_ ?_
 rotate_left
 ·simp only [Act.put, List.setIfInBounds_toArray, List.set_cons_zero, List.set_cons_succ, i64_w, i32_w]
  rfl
 refine pure_ (i := 6) (N := some 11) (v := undef) (a' := ?_) #[true, true, true, true, true, true, true, false, false] rfl rfl (any_of HT_.out (by kernel_rfl)) (fun _ _ _ h => h) (Or.inr ⟨by rfl, rfl⟩) ?_ ?_
 rotate_left
 ·simp only [Act.put, List.setIfInBounds_toArray, List.set_cons_zero, List.set_cons_succ, i64_w, i32_w]
  rfl
 refine pure_ (i := 7) (N := some 12) (v := ?_) (a' := ?_) #[true, true, true, true, true, true, true, true, false] rfl rfl (any_of HT_.out (by kernel_rfl)) (fun _ _ _ h => h) (Or.inl ⟨by rfl, ?_⟩) ?_ ?_
 rotate_left
 ·intro w'
  go_simp
  with_reducible rfl
 rotate_left
 ·simp only [Act.put, List.setIfInBounds_toArray, List.set_cons_zero, List.set_cons_succ, i64_w, i32_w]
  rfl
 refine pure_ (i := 8) (N := some 4) (v := ?_) (a' := ?_) #[true, true, true, true, true, true, true, true, true] rfl rfl (any_of HT_.out (by kernel_rfl)) (fun _ _ _ h => h) (Or.inl ⟨by rfl, ?_⟩) ?_ ?_
 rotate_left
 ·intro w'
  go_simp
  with_reducible rfl
 rotate_left
 ·simp only [Act.put, List.setIfInBounds_toArray, List.set_cons_zero, List.set_cons_succ, i64_w, i32_w]
  rfl
 refine done_ (done_of HT_.out (by kernel_rfl)) ?_
 try go_wp2
 go_ret
 exact ⟨z22_1, z22_4⟩

end Go.Proofs.Ytmkchdlkpbnldaa.PB

namespace Go.Proofs.Ytmkchdlkpbnldaa.PB
open Go.RowKit Go.Proofs.YtmkchdlkpbnldaaW.PrintWords Go.Proofs.YtmkchdlkpbnldaaW.PrintLast Go.Proofs.YtmkchdlkpbnldaaW.PrintMore
attribute [local go_sem] max2_int min2_int max_two min_two max_three min_three max_four min_four   -- for this text's walks alone
open Go.Proofs.YtmkchdlkpbnldaaMine
set_option linter.unusedVariables false
set_option linter.unusedSimpArgs false

theorem z23_1 {p : Prop} (h : p := by first | rfl | (simp; done) | (simp [*]; done)) : p := h
theorem z23_2 {p : Prop} (h : p := by first | (with_reducible assumption) | assumption) : p := h
theorem z23_3 {p : Prop} (h : p := by repeat (first | (with_reducible first | exact HB.out | apply below_alloc | apply pw_below_drewN | apply below_drew1) | exact HB.out)) : p := h
theorem z23_4 {p : Prop} (h : p := by first | exact Kd.R_nil _ _ _ _ _ | exact Kd.N_nil _ _ _ _ _ | exact Kd.V_nil _ _ _ _ _ | exact Kd.Q_nil _ _ _ _ _ | exact Kd.S_nil _ _ _ _ _) : p := h
theorem z23_5 {p : Prop} (h : p := by repeat (first | (with_reducible first | exact HB.out | apply below_alloc | apply pw_below_drewN | apply below_drew1 | refine below_set ?_ GE492.out) | exact HB.out)) : p := h
theorem z23_6 {p : Prop} (h : p := by repeat (first | (with_reducible first | exact HB.out | apply below_alloc | apply pw_below_drewN | apply below_drew1 | refine below_set ?_ GE492.out | refine below_set ?_ GE493.out) | exact HB.out)) : p := h
theorem z23_7 {p : Prop} (h : p := by repeat (first | (with_reducible first | exact HB.out | apply below_alloc | apply pw_below_drewN | apply below_drew1 | refine below_set ?_ GE492.out | refine below_set ?_ GE493.out | refine below_set ?_ GE494.out) | exact HB.out)) : p := h
theorem z23_8 {p : Prop} (h : p := by (with_reducible repeat (first | refine blk_drewN ?_ _ | refine blk_drew ?_ | refine blk_alloc ?_ _)); refine blk_far ?_ NB492_495.out _; (with_reducible repeat (first | refine blk_drewN ?_ _ | refine blk_drew ?_ | refine blk_alloc ?_ _)); exact BK492.out) : p := h
theorem z23_9 {p : Prop} (h : p := by (with_reducible repeat (first | refine blk_drewN ?_ _ | refine blk_drew ?_ | refine blk_alloc ?_ _)); refine blk_far ?_ NB493_495.out _; (with_reducible repeat (first | refine blk_drewN ?_ _ | refine blk_drew ?_ | refine blk_alloc ?_ _)); exact BK493.out) : p := h
theorem z23_10 {p : Prop} (h : p := by (with_reducible repeat (first | refine blk_drewN ?_ _ | refine blk_drew ?_ | refine blk_alloc ?_ _)); refine blk_far ?_ NB494_495.out _; (with_reducible repeat (first | refine blk_drewN ?_ _ | refine blk_drew ?_ | refine blk_alloc ?_ _)); exact BK494.out) : p := h
theorem z23_11 {p : Prop} (h : p := by repeat (first | (with_reducible first | exact HB.out | apply below_alloc | apply pw_below_drewN | apply below_drew1 | refine below_set ?_ GE492.out | refine below_set ?_ GE493.out | refine below_set ?_ GE494.out | refine below_set ?_ GE495.out) | exact HB.out)) : p := h
theorem z23_12 {p : Prop} (h : p := by (with_reducible repeat (first | refine blk_drewN ?_ _ | refine blk_drew ?_ | refine blk_alloc ?_ _)); refine blk_put (cs := #[u00, u01]) ?_ 1 _ rfl; (with_reducible repeat (first | refine blk_drewN ?_ _ | refine blk_drew ?_ | refine blk_alloc ?_ _)); exact BK495.out) : p := h
theorem z23_13 {p : Prop} (h : p := by repeat (first | (with_reducible first | exact HB.out | apply below_alloc | apply pw_below_drewN | apply below_drew1 | refine below_set ?_ GE492.out | refine below_set ?_ GE493.out | refine below_set ?_ GE494.out | refine below_set ?_ GE495.out | refine below_set ?_ GE497.out) | exact HB.out)) : p := h
theorem z23_14 {p : Prop} (h : p := by (with_reducible repeat (first | refine blk_drewN ?_ _ | refine blk_drew ?_ | refine blk_alloc ?_ _)); refine blk_far ?_ NB492_497.out _; (with_reducible repeat (first | refine blk_drewN ?_ _ | refine blk_drew ?_ | refine blk_alloc ?_ _)); refine blk_far ?_ NB492_497.out _; (with_reducible repeat (first | refine blk_drewN ?_ _ | refine blk_drew ?_ | refine blk_alloc ?_ _)); refine blk_far ?_ NB492_497.out _; (with_reducible repeat (first | refine blk_drewN ?_ _ | refine blk_drew ?_ | refine blk_alloc ?_ _)); exact BK492.out) : p := h
theorem z23_15 {p : Prop} (h : p := by (with_reducible repeat (first | refine blk_drewN ?_ _ | refine blk_drew ?_ | refine blk_alloc ?_ _)); refine blk_far ?_ NB493_497.out _; (with_reducible repeat (first | refine blk_drewN ?_ _ | refine blk_drew ?_ | refine blk_alloc ?_ _)); refine blk_far ?_ NB493_497.out _; (with_reducible repeat (first | refine blk_drewN ?_ _ | refine blk_drew ?_ | refine blk_alloc ?_ _)); refine blk_far ?_ NB493_497.out _; (with_reducible repeat (first | refine blk_drewN ?_ _ | refine blk_drew ?_ | refine blk_alloc ?_ _)); exact BK493.out) : p := h
theorem z23_16 {p : Prop} (h : p := by (with_reducible repeat (first | refine blk_drewN ?_ _ | refine blk_drew ?_ | refine blk_alloc ?_ _)); refine blk_far ?_ NB494_497.out _; (with_reducible repeat (first | refine blk_drewN ?_ _ | refine blk_drew ?_ | refine blk_alloc ?_ _)); refine blk_far ?_ NB494_497.out _; (with_reducible repeat (first | refine blk_drewN ?_ _ | refine blk_drew ?_ | refine blk_alloc ?_ _)); refine blk_far ?_ NB494_497.out _; (with_reducible repeat (first | refine blk_drewN ?_ _ | refine blk_drew ?_ | refine blk_alloc ?_ _)); exact BK494.out) : p := h
theorem z23_17 {p : Prop} (h : p := by (with_reducible repeat (first | refine blk_drewN ?_ _ | refine blk_drew ?_ | refine blk_alloc ?_ _)); refine blk_far ?_ NB495_497.out _; (with_reducible repeat (first | refine blk_drewN ?_ _ | refine blk_drew ?_ | refine blk_alloc ?_ _)); refine blk_far ?_ NB495_497.out _; (with_reducible repeat (first | refine blk_drewN ?_ _ | refine blk_drew ?_ | refine blk_alloc ?_ _)); refine blk_far ?_ NB495_497.out _; (with_reducible repeat (first | refine blk_drewN ?_ _ | refine blk_drew ?_ | refine blk_alloc ?_ _)); exact BK495.out) : p := h
theorem z23_18 {p : Prop} (h : p := by (with_reducible repeat (first | refine blk_drewN ?_ _ | refine blk_drew ?_ | refine blk_alloc ?_ _)); refine blk_put (cs := #[.int .i64 ((rd_T70 l0_2 x16_1).f0), .int .i64 ((rd_T70 l0_2 x16_1).f1), .int .i64 0]) ?_ 2 _ rfl; (with_reducible repeat (first | refine blk_drewN ?_ _ | refine blk_drew ?_ | refine blk_alloc ?_ _)); refine blk_put (cs := #[.int .i64 ((rd_T70 l0_2 x16_1).f0), .int .i64 0, .int .i64 0]) ?_ 1 _ rfl; (with_reducible repeat (first | refine blk_drewN ?_ _ | refine blk_drew ?_ | refine blk_alloc ?_ _)); refine blk_put (cs := #[.int .i64 0, .int .i64 0, .int .i64 0]) ?_ 0 _ rfl; (with_reducible repeat (first | refine blk_drewN ?_ _ | refine blk_drew ?_ | refine blk_alloc ?_ _)); exact BK497.out) : p := h
/-! ### impl_scene_seen: function 23 -/
mutual
def impl_scene_seen.l0 : Nat → List (S70) → Int → Int → List (List (S70)) → List (S80) → List (S70) → List Int → List (List Int) → List Int → Option (List Int × List Int)
  | 0, _, _, _, _, _, _, _, _, _ => none
  | k + 1, x14, x15, x16, x03, x04, x05, x06, x02, x00 => if x16 < x15 then (if 0 ≤ x16 then (if x16 < (x14.length : Int) then ((impl_Do_reads.f ((rd_T70 x14 x16).f0) ((rd_T70 x14 x16).f1) ((rd_T70 x14 x16).f2)).bind fun t498 => (if t498 = true then ((impl_scene_value.f k x03 x04 x05 x06 x02 x16).bind fun bt499 => (if x00.length < 17592186044416 then (impl_scene_seen.l0 k x14 x15 (wrap64 (x16 + 1)) x03 x04 x05 x06 x02 (x00 ++ [bt499.1])) else (none))) else (impl_scene_seen.l0 k x14 x15 (wrap64 (x16 + 1)) x03 x04 x05 x06 x02 x00))) else (none)) else (none)) else (impl_scene_seen.l1 k x02 (x02.length : Int) 0 x03 x04 x05 x06 x02 x00 ([] : List Int))
def impl_scene_seen.l1 : Nat → List (List Int) → Int → Int → List (List (S70)) → List (S80) → List (S70) → List Int → List (List Int) → List Int → List Int → Option (List Int × List Int)
  | 0, _, _, _, _, _, _, _, _, _, _ => none
  | k + 1, x38, x39, x40, x03, x04, x05, x06, x02, x00, x01 => if x40 < x39 then (if 0 ≤ x40 then (if x40 < (x38.length : Int) then (if ((rd_L5 x38 x40).length : Int) > 0 then (if 0 ≤ (wrap64 (((rd_L5 x38 x40).length : Int) - 1)) then (if (wrap64 (((rd_L5 x38 x40).length : Int) - 1)) < ((rd_L5 x38 x40).length : Int) then ((impl_scene_value.f k x03 x04 x05 x06 x02 (rd (rd_L5 x38 x40) (wrap64 (((rd_L5 x38 x40).length : Int) - 1)))).bind fun bt506 => (if x01.length < 17592186044416 then (impl_scene_seen.l1 k x38 x39 (wrap64 (x40 + 1)) x03 x04 x05 x06 x02 x00 (x01 ++ [bt506.1])) else (none))) else (none)) else (none)) else (if x01.length < 17592186044416 then (impl_scene_seen.l1 k x38 x39 (wrap64 (x40 + 1)) x03 x04 x05 x06 x02 x00 (x01 ++ [0])) else (none))) else (none)) else (none)) else (some (x00, x01))
end
def impl_scene_seen.f (k : Nat) (l0_0 : List (List (S70))) (l0_1 : List (S80)) (l0_2 : List (S70)) (l1_0 : List Int) (l1_1 : List (List Int)) : Option (List Int × List Int) := impl_scene_seen.l0 k l0_2 (l0_2.length : Int) 0 l0_0 l0_1 l0_2 l1_0 l1_1 ([] : List Int)
def impl_scene_seen.T14 : Bool × List (List Nat × List Nat) := (true, [([], []), ([], []), ([], []), ([], []), ([3], [3]), ([4], [4]), ([2, 5], [2, 5]), ([6], [6]), ([0, 1, 7], [0, 1, 7]), ([8], [8]), ([9], [9]), ([9], [9]), ([10, 8, 0, 1, 2, 3, 4, 5, 6, 7, 8, 9, 10], [10])])
def impl_scene_seen.B14 : List Nat := [0, 0, 0, 0, 8, 24, 60, 124, 255, 511, 1023, 1023, 2047]
theorem impl_scene_seen.tab14 : rtab .any (opsOf Try.f23 14) = impl_scene_seen.T14 := by kernel_rfl
theorem impl_scene_seen.bits14 : waitsOk impl_scene_seen.T14.2 impl_scene_seen.B14 = true := by kernel_rfl
set_option maxHeartbeats 8000000 in
set_option maxRecDepth 100000 in
theorem impl_scene_seen.calls (k : Nat) (A0_0 : Option Addr) (c0_0 : Nat) (l0_0 : List (List (S70))) (A0_1 : Option Addr) (c0_1 : Nat) (l0_1 : List (S80)) (A0_2 : Option Addr) (c0_2 : Nat) (l0_2 : List (S70)) (A1_0 : Option Addr) (c1_0 : Nat) (l1_0 : List Int) (A1_1 : Option Addr) (c1_1 : Nat) (l1_1 : List (List Int)) (r1 : List Int) (r2 : List Int) (w : World) (hr0_0 : Kd.C (Kd.slice 70 k70) w A0_0 l0_0.length l0_0) (hc0_0 : l0_0.length ≤ c0_0) (hr0_1 : Kd.C k80 w A0_1 l0_1.length l0_1) (hc0_1 : l0_1.length ≤ c0_1) (hr0_2 : Kd.C k70 w A0_2 l0_2.length l0_2) (hc0_2 : l0_2.length ≤ c0_2) (hr1_0 : Kd.C (Kd.int .i64) w A1_0 l1_0.length l1_0) (hc1_0 : l1_0.length ≤ c1_0) (hr1_1 : Kd.C (Kd.slice 3 (Kd.int .i64)) w A1_1 l1_1.length l1_1) (hc1_1 : l1_1.length ≤ c1_1) (h : impl_scene_seen.f k l0_0 l0_1 l0_2 l1_0 l1_1 = some (r1, r2)) :
  Calls Try.prog 23 #[.agg #[.slice A0_0 l0_0.length c0_0, .slice A0_1 l0_1.length c0_1, .slice A0_2 l0_2.length c0_2], .agg #[.slice A1_0 l1_0.length c1_0, .slice A1_1 l1_1.length c1_1]] w fun e w' => ∃ v0_ v1_ : Value, e = .returned (.agg #[v0_, v1_]) ∧ Kd.R (Kd.int .i64) 3 w' w.heap.size (fun k_ => some k_ ≠ (v1_ : Value).ownBlock) v0_ r1 ∧ Kd.R (Kd.int .i64) 3 w' w.heap.size (fun k_ => some k_ ≠ (v0_ : Value).ownBlock) v1_ r2 ∧ Below w.heap.size w w' := by
 have hu60 := Try.underlying60
 have hu40 := Try.underlying40
 have hu26 := Try.underlying26
 have hu70 := Try.underlying70
 have HR0_0 := am_ hr0_0
 have HC0_0 := am_ hc0_0
 clear hr0_0 hc0_0
 have HR0_1 := am_ hr0_1
 have HC0_1 := am_ hc0_1
 clear hr0_1 hc0_1
 have HR0_2 := am_ hr0_2
 have HC0_2 := am_ hc0_2
 clear hr0_2 hc0_2
 have HR1_0 := am_ hr1_0
 have HC1_0 := am_ hc1_0
 clear hr1_0 hc1_0
 have HR1_1 := am_ hr1_1
 have HC1_1 := am_ hc1_1
 clear hr1_1 hc1_1
 have HB := am_ (Below.refl w.heap.size w)
 have H : (impl_scene_seen.l0 k l0_2 (l0_2.length : Int) 0 l0_0 l0_1 l0_2 l1_0 l1_1 ([] : List Int)) = some (r1, r2) := h
 clear h
 have H' := am_ H
 clear H
 go_enter Try.func23, Try.ntmps23
 go_wp2_with (first | ((with_reducible refine gate_dst (N := 2) rfl ?_); refine box_event ?hg (N := 2) ?hd (cs := #[.slice A0_0 l0_0.length c0_0, .slice A0_1 l0_1.length c0_1, .slice A0_2 l0_2.length c0_2]) (t := 60) ?hr ?_; (case hd => rfl); (case hg => rfl); (case hr => first | (go_simp; done) | (go_simp; rfl)); intro gb492 hg w3 hbox hb; have n0_ := am_ (below_step z23_3 hb); have n1_ := am_ (hbox); have n2_ := am_ (by rw [hg]; exact (below_size z23_3) : w.heap.size ≤ gb492); have n3_ := am_ (by rw [hg]; exact (below_size z23_3) : w.heap.size ≤ gb492); clear HB; have HB := n0_; have BK492 := n1_; have GW492 := n2_; have GE492 := n3_; clear n0_ n1_ n2_ n3_; clear hb hbox hg) | ((with_reducible refine gate_dst (N := 3) rfl ?_); refine box_event ?hg (N := 3) ?hd (cs := #[.slice A1_0 l1_0.length c1_0, .slice A1_1 l1_1.length c1_1]) (t := 40) ?hr ?_; (case hd => rfl); (case hg => rfl); (case hr => first | (go_simp; done) | (go_simp; rfl)); intro gb493 hg w4 hbox hb; have n0_ := am_ (blk_below (bu BK492.out) hb); have n1_ := am_ (below_step z23_5 hb); have n2_ := am_ (hbox); have n3_ := am_ (by rw [hg]; exact (below_size z23_5) : w.heap.size ≤ gb493); have n4_ := am_ (by rw [hg]; exact (below_size z23_5) : w.heap.size ≤ gb493); have n5_ := am_ (by rw [hg]; exact Nat.ne_of_lt (blk_lt (bu BK492.out)) : gb492 ≠ gb493); have n6_ := am_ (by rw [hg]; exact Nat.ne_of_gt (blk_lt (bu BK492.out)) : gb493 ≠ gb492); clear BK492 HB; have BK492 := n0_; have HB := n1_; have BK493 := n2_; have GW493 := n3_; have GE493 := n4_; have NB492_493 := n5_; have NB493_492 := n6_; clear n0_ n1_ n2_ n3_ n4_ n5_ n6_; clear hb hbox hg) | ((with_reducible refine gate_dst (N := 4) rfl ?_); refine box_event ?hg (N := 4) ?hd (cs := #[.slice none 0 0, .slice none 0 0]) (t := 26) ?hr ?_; (case hd => rfl); (case hg => rfl); (case hr => first | (go_simp; done) | (go_simp; rfl)); intro gb494 hg w5 hbox hb; have n0_ := am_ (blk_below (bu BK492.out) hb); have n1_ := am_ (blk_below (bu BK493.out) hb); have n2_ := am_ (below_step z23_6 hb); have n3_ := am_ (hbox); have n4_ := am_ (by rw [hg]; exact (below_size z23_6) : w.heap.size ≤ gb494); have n5_ := am_ (by rw [hg]; exact (below_size z23_6) : w.heap.size ≤ gb494); have n6_ := am_ (by rw [hg]; exact Nat.ne_of_lt (blk_lt (bu BK492.out)) : gb492 ≠ gb494); have n7_ := am_ (by rw [hg]; exact Nat.ne_of_gt (blk_lt (bu BK492.out)) : gb494 ≠ gb492); have n8_ := am_ (by rw [hg]; exact Nat.ne_of_lt (blk_lt (bu BK493.out)) : gb493 ≠ gb494); have n9_ := am_ (by rw [hg]; exact Nat.ne_of_gt (blk_lt (bu BK493.out)) : gb494 ≠ gb493); clear BK492 BK493 HB; have BK492 := n0_; have BK493 := n1_; have HB := n2_; have BK494 := n3_; have GW494 := n4_; have GE494 := n5_; have NB492_494 := n6_; have NB494_492 := n7_; have NB493_494 := n8_; have NB494_493 := n9_; clear n0_ n1_ n2_ n3_ n4_ n5_ n6_ n7_ n8_ n9_; clear hb hbox hg) | ((with_reducible refine gate_dst (N := 5) rfl ?_); refine box_event ?hg (N := 5) ?hd (cs := #[.slice none 0 0, .slice none 0 0]) (t := 26) ?hr ?_; (case hd => rfl); (case hg => rfl); (case hr => first | (go_simp; done) | (go_simp; rfl)); intro gb495 hg w6 hbox hb; have n0_ := am_ (blk_below (bu BK492.out) hb); have n1_ := am_ (blk_below (bu BK493.out) hb); have n2_ := am_ (blk_below (bu BK494.out) hb); have n3_ := am_ (below_step z23_7 hb); have n4_ := am_ (hbox); have n5_ := am_ (by rw [hg]; exact (below_size z23_7) : w.heap.size ≤ gb495); have n6_ := am_ (by rw [hg]; exact (below_size z23_7) : w.heap.size ≤ gb495); have n7_ := am_ (by rw [hg]; exact Nat.ne_of_lt (blk_lt (bu BK492.out)) : gb492 ≠ gb495); have n8_ := am_ (by rw [hg]; exact Nat.ne_of_gt (blk_lt (bu BK492.out)) : gb495 ≠ gb492); have n9_ := am_ (by rw [hg]; exact Nat.ne_of_lt (blk_lt (bu BK493.out)) : gb493 ≠ gb495); have n10_ := am_ (by rw [hg]; exact Nat.ne_of_gt (blk_lt (bu BK493.out)) : gb495 ≠ gb493); have n11_ := am_ (by rw [hg]; exact Nat.ne_of_lt (blk_lt (bu BK494.out)) : gb494 ≠ gb495); have n12_ := am_ (by rw [hg]; exact Nat.ne_of_gt (blk_lt (bu BK494.out)) : gb495 ≠ gb494); clear BK492 BK493 BK494 HB; have BK492 := n0_; have BK493 := n1_; have BK494 := n2_; have HB := n3_; have BK495 := n4_; have GW495 := n5_; have GE495 := n6_; have NB492_495 := n7_; have NB495_492 := n8_; have NB493_495 := n9_; have NB495_493 := n10_; have NB494_495 := n11_; have NB495_494 := n12_; clear n0_ n1_ n2_ n3_ n4_ n5_ n6_ n7_ n8_ n9_ n10_ n11_ n12_; clear hb hbox hg; have hnb7 := NB492_493.out; have hnc7 := NB493_492.out; have hnb8 := NB492_494.out; have hnc8 := NB494_492.out; have hnb9 := NB492_495.out; have hnc9 := NB495_492.out; have hcz10_0 := cf0 BK492.out; have hcz10_1 := cf1 BK492.out; have hcz10_2 := cf2 BK492.out; have hfz10_0 := blk_frozen BK492.out 0; have hfz10_1 := blk_frozen BK492.out 1; have hfz10_2 := blk_frozen BK492.out 2))
 go_loopg [16] k (fun kq v16 w' => ∃ (x16_1 : Int) (x00_1 : List Int) (u00 : Value), v16 = .int .i64 x16_1 ∧ Aside0 (impl_scene_seen.l0 kq l0_2 (l0_2.length : Int) x16_1 l0_0 l0_1 l0_2 l1_0 l1_1 x00_1 = some (r1, r2)) ∧ Aside0 (kq ≤ k) ∧ Aside0 (Kd.R (Kd.int .i64) 3 w' w.heap.size (fun _ => True) u00 x00_1) ∧ Aside0 (w'.heap[gb492]? = some (.cells #[(.slice A0_0 l0_0.length c0_0), (.slice A0_1 l0_1.length c0_1), (.slice A0_2 l0_2.length c0_2)] 60 (0, 0))) ∧ Aside0 (w'.heap[gb493]? = some (.cells #[(.slice A1_0 l1_0.length c1_0), (.slice A1_1 l1_1.length c1_1)] 40 (0, 0))) ∧ Aside0 (w'.heap[gb494]? = some (.cells #[(.slice none 0 0), (.slice none 0 0)] 26 (0, 0))) ∧ Aside0 (w'.heap[gb495]? = some (.cells #[u00, (.slice none 0 0)] 26 (0, 0))) ∧ Aside0 (Below w.heap.size w w'))
 case atStart => exact ⟨(0), (([] : List Int)), (.slice none 0 0), z23_1, H', ⟨Nat.le_refl _⟩, ⟨z23_4⟩, ⟨bu BK492.out⟩, ⟨bu BK493.out⟩, ⟨bu BK494.out⟩, ⟨bu BK495.out⟩, ⟨z23_11⟩⟩
 case round =>
  clear H'
  obtain ⟨x16_1, x00_1, u00, rfl, HA, HK1, HO_00, BK492, BK493, BK494, BK495, HB⟩ := hrel
  cases gk with
  | zero => exact absurd HA.out (by simp [impl_scene_seen.l0])
  | succ k1 =>
   have H := HA.out
   clear HA
   simp only [impl_scene_seen.l0] at H
   by_cases c11 : x16_1 < (l0_2.length : Int)
   ·rw [if_pos c11] at H
    have c11b0 : decide (x16_1 < (l0_2.length : Int)) = true := decide_eq_true c11
    clear c11
    by_cases c12 : 0 ≤ x16_1
    ·rw [if_pos c12] at H
     have c12b0 : decide (0 ≤ x16_1) = true := decide_eq_true c12
     clear c12
     by_cases c13 : x16_1 < (l0_2.length : Int)
     ·rw [if_pos c13] at H
      have c13b0 : decide (x16_1 < (l0_2.length : Int)) = true := decide_eq_true c13
      clear c13
      replace H := Option.bind_eq_some_iff.mp H
      obtain ⟨t498, A140, H⟩ := H
      replace H : (if t498 = true then ((impl_scene_value.f k1 l0_0 l0_1 l0_2 l1_0 l1_1 x16_1).bind fun bt499 => (if x00_1.length < 17592186044416 then (impl_scene_seen.l0 k1 l0_2 (l0_2.length : Int) (wrap64 (x16_1 + 1)) l0_0 l0_1 l0_2 l1_0 l1_1 (x00_1 ++ [bt499.1])) else (none))) else (impl_scene_seen.l0 k1 l0_2 (l0_2.length : Int) (wrap64 (x16_1 + 1)) l0_0 l0_1 l0_2 l1_0 l1_1 x00_1)) = some (r1, r2) := H
      have A14 := am_ A140
      clear A140
      by_cases c15 : t498 = true
      ·subst c15
       have H1 : ((impl_scene_value.f k1 l0_0 l0_1 l0_2 l1_0 l1_1 x16_1).bind fun bt499 => (if x00_1.length < 17592186044416 then (impl_scene_seen.l0 k1 l0_2 (l0_2.length : Int) (wrap64 (x16_1 + 1)) l0_0 l0_1 l0_2 l1_0 l1_1 (x00_1 ++ [bt499.1])) else (none))) = some (r1, r2) := by rw [if_pos rfl] at H; exact H
       clear H
       have H := H1
       clear H1
       replace H := Option.bind_eq_some_iff.mp H
       obtain ⟨⟨t499, t500⟩, A160, H⟩ := H
       replace H : (if x00_1.length < 17592186044416 then (impl_scene_seen.l0 k1 l0_2 (l0_2.length : Int) (wrap64 (x16_1 + 1)) l0_0 l0_1 l0_2 l1_0 l1_1 (x00_1 ++ [t499])) else (none)) = some (r1, r2) := H
       have A16 := am_ A160
       clear A160
       by_cases c17 : x00_1.length < 17592186044416
       ·rw [if_pos c17] at H
        have LMc17 := am_ c17
        clear c17
        obtain ⟨y501, hy501⟩ : ∃ y_ : List Int, y_ = (x00_1 ++ [t499]) := ⟨_, rfl⟩
        replace H : (impl_scene_seen.l0 k1 l0_2 (l0_2.length : Int) (wrap64 (x16_1 + 1)) l0_0 l0_1 l0_2 l1_0 l1_1 y501) = some (r1, r2) := by first | (rw [hy501]; with_reducible exact H) | (have H2_ := (Option.bind_some _ _).symm.trans H; rw [hy501]; with_reducible exact H2_) | (have H2_ := (Option.bind_some _ _).symm.trans H; with_reducible exact H2_) | with_reducible exact H | (rw [hy501]; exact H) | exact H
        have Ny501 := am_ hy501
        clear hy501
        have H' := am_ H
        clear H
        have p496 : 0 ≤ (x16_1 : Int) := of_decide_eq_true z23_2
        have q496 : x16_1 < (l0_2.length : Int) := of_decide_eq_true z23_2
        obtain ⟨ad496, e496, hx496_0, hx496_1, hx496_2⟩ := at_T70 HR0_2.out x16_1 p496 q496
        cases e496
        replace hx496_0 := (HB.out.cell (World.block_lt_of_cell? w _ hx496_0)).trans hx496_0
        replace hx496_1 := (HB.out.cell (World.block_lt_of_cell? w _ hx496_1)).trans hx496_1
        replace hx496_2 := (HB.out.cell (World.block_lt_of_cell? w _ hx496_2)).trans hx496_2
        replace p496 := eq_true p496
        replace q496 := eq_true q496
        go_wp2_with (first | ((with_reducible refine gate_dst (N := 7) rfl ?_); refine box_event ?hg (N := 7) ?hd (cs := #[.int .i64 0, .int .i64 0, .int .i64 0]) (t := 70) ?hr ?_; (case hd => rfl); (case hg => rfl); (case hr => first | (go_simp; done) | (go_simp; rfl)); intro gb497 hg w18 hbox hb; have n0_ := am_ (Kd.R_below (ru HO_00.out) hb); have n1_ := am_ (blk_below (bu BK492.out) hb); have n2_ := am_ (blk_below (bu BK493.out) hb); have n3_ := am_ (blk_below (bu BK494.out) hb); have n4_ := am_ (blk_below (bu BK495.out) hb); have n5_ := am_ (below_step z23_11 hb); have n6_ := am_ (hbox); have n7_ := am_ (by rw [hg]; exact (below_size z23_11) : w.heap.size ≤ gb497); have n8_ := am_ (by rw [hg]; exact (below_size z23_11) : w.heap.size ≤ gb497); have n9_ := am_ (by rw [hg]; exact Nat.ne_of_lt (blk_lt (bu BK492.out)) : gb492 ≠ gb497); have n10_ := am_ (by rw [hg]; exact Nat.ne_of_gt (blk_lt (bu BK492.out)) : gb497 ≠ gb492); have n11_ := am_ (by rw [hg]; exact Nat.ne_of_lt (blk_lt (bu BK493.out)) : gb493 ≠ gb497); have n12_ := am_ (by rw [hg]; exact Nat.ne_of_gt (blk_lt (bu BK493.out)) : gb497 ≠ gb493); have n13_ := am_ (by rw [hg]; exact Nat.ne_of_lt (blk_lt (bu BK494.out)) : gb494 ≠ gb497); have n14_ := am_ (by rw [hg]; exact Nat.ne_of_gt (blk_lt (bu BK494.out)) : gb497 ≠ gb494); have n15_ := am_ (by rw [hg]; exact Nat.ne_of_lt (blk_lt (bu BK495.out)) : gb495 ≠ gb497); have n16_ := am_ (by rw [hg]; exact Nat.ne_of_gt (blk_lt (bu BK495.out)) : gb497 ≠ gb495); clear HO_00 BK492 BK493 BK494 BK495 HB; have HO_00 := n0_; have BK492 := n1_; have BK493 := n2_; have BK494 := n3_; have BK495 := n4_; have HB := n5_; have BK497 := n6_; have GW497 := n7_; have GE497 := n8_; have NB492_497 := n9_; have NB497_492 := n10_; have NB493_497 := n11_; have NB497_493 := n12_; have NB494_497 := n13_; have NB497_494 := n14_; have NB495_497 := n15_; have NB497_495 := n16_; clear n0_ n1_ n2_ n3_ n4_ n5_ n6_ n7_ n8_ n9_ n10_ n11_ n12_ n13_ n14_ n15_ n16_; clear hb hbox hg; have hnb19 := NB497_492.out; have hnc19 := NB492_497.out; have hnb20 := NB497_493.out; have hnc20 := NB493_497.out; have hnb21 := NB497_494.out; have hnc21 := NB494_497.out; have hnb22 := NB497_495.out; have hnc22 := NB495_497.out; have hcz23_0 := cf0 BK497.out; have hcz23_1 := cf1 BK497.out; have hcz23_2 := cf2 BK497.out; have hfz23_0 := blk_frozen BK497.out 0; have hfz23_1 := blk_frozen BK497.out 1; have hfz23_2 := blk_frozen BK497.out 2) | ((with_reducible refine gate_callee (f := 31) rfl ?_); refine goesL_ (some 22) rfl rfl Try.func31 (by kernel_rfl) rfl #[.agg #[.int .i64 ((rd_T70 l0_2 x16_1).f0), .int .i64 ((rd_T70 l0_2 x16_1).f1), .int .i64 ((rd_T70 l0_2 x16_1).f2)]] rfl (by (try simp only [List.map_toArray, List.map_cons, List.map_nil]); first | done | rfl | (simp only [List.length_drop, List.length_take]; rfl)) ?_; (with_reducible refine (impl_Do_reads.calls ((rd_T70 l0_2 x16_1).f0) ((rd_T70 l0_2 x16_1).f1) ((rd_T70 l0_2 x16_1).f2) true _ A14.out).mono ?_); rintro e w24 ⟨rfl, hb⟩; refine ⟨_, rfl, ?_⟩; replace HO_00 := am_ (Kd.R_below (ru (Kd.R_mono (Kd.R_far (p := ⟨gb497, 2, none⟩) (Kd.R_far (p := ⟨gb497, 1, none⟩) (Kd.R_far (p := ⟨gb497, 0, none⟩) (Kd.R_types HO_00.out BK497.out (by decide)) (fun _ hk => hk.2) (.int .i64 ((rd_T70 l0_2 x16_1).f0))) (fun _ hk => hk.2) (.int .i64 ((rd_T70 l0_2 x16_1).f1))) (fun _ hk => hk.2) (.int .i64 ((rd_T70 l0_2 x16_1).f2))) (fun _ h_ => h_.1))) hb); replace BK492 := am_ (blk_below (g := gb492) (o := .cells #[.slice A0_0 l0_0.length c0_0, .slice A0_1 l0_1.length c0_1, .slice (some ad496) l0_2.length c0_2] 60 (0, 0)) z23_14 hb); replace BK493 := am_ (blk_below (g := gb493) (o := .cells #[.slice A1_0 l1_0.length c1_0, .slice A1_1 l1_1.length c1_1] 40 (0, 0)) z23_15 hb); replace BK494 := am_ (blk_below (g := gb494) (o := .cells #[.slice none 0 0, .slice none 0 0] 26 (0, 0)) z23_16 hb); replace BK495 := am_ (blk_below (g := gb495) (o := .cells #[u00, .slice none 0 0] 26 (0, 0)) z23_17 hb); replace BK497 := am_ (blk_below (g := gb497) (o := .cells #[.int .i64 ((rd_T70 l0_2 x16_1).f0), .int .i64 ((rd_T70 l0_2 x16_1).f1), .int .i64 ((rd_T70 l0_2 x16_1).f2)] 70 (0, 0)) z23_18 hb); replace HB := am_ (below_step z23_13 hb); (try clear hb); (try clear hb2); (try clear hk); (try clear hi); have hnb25 := NB492_493.out; have hnc25 := NB493_492.out; have hnb26 := NB492_494.out; have hnc26 := NB494_492.out; have hnb27 := NB492_495.out; have hnc27 := NB495_492.out; have hcz28_0 := cf0 BK492.out; have hcz28_1 := cf1 BK492.out; have hcz28_2 := cf2 BK492.out; have hfz28_0 := blk_frozen BK492.out 0; have hfz28_1 := blk_frozen BK492.out 1; have hfz28_2 := blk_frozen BK492.out 2; have hnb29 := NB493_494.out; have hnc29 := NB494_493.out; have hnb30 := NB493_495.out; have hnc30 := NB495_493.out; have hcz31_0 := cf0 BK493.out; have hcz31_1 := cf1 BK493.out; have hfz31_0 := blk_frozen BK493.out 0; have hfz31_1 := blk_frozen BK493.out 1) | ((with_reducible refine gate_callee (f := 39) rfl ?_); refine goesL_ (some 27) rfl rfl Try.func39 (by kernel_rfl) rfl #[.agg #[.slice A0_0 l0_0.length c0_0, .slice A0_1 l0_1.length c0_1, .slice (some ad496) l0_2.length c0_2], .agg #[.slice A1_0 l1_0.length c1_0, .slice A1_1 l1_1.length c1_1], .int .i64 x16_1] rfl (by (try simp only [List.map_toArray, List.map_cons, List.map_nil]); first | done | rfl | (simp only [List.length_drop, List.length_take]; rfl)) ?_; (with_reducible refine (impl_scene_value.calls k1 _ _ l0_0 _ _ l0_1 _ _ l0_2 _ _ l1_0 _ _ l1_1 x16_1 t499 t500 _ ?side1 ?side2 ?side3 ?side4 ?side5 ?side6 ?side7 ?side8 ?side9 ?side10 A16.out).mono ?_); (case side1 => repeat (first | exact (Kd.C_below HR0_0.out HB.out) | (with_reducible refine Kd.C_alloc ?_ _) | (with_reducible refine Kd.C_drewN ?_ _) | (with_reducible refine Kd.C_drew ?_))); (case side2 => exact HC0_0.out); (case side3 => repeat (first | exact (Kd.C_below HR0_1.out HB.out) | (with_reducible refine Kd.C_alloc ?_ _) | (with_reducible refine Kd.C_drewN ?_ _) | (with_reducible refine Kd.C_drew ?_))); (case side4 => exact HC0_1.out); (case side5 => repeat (first | exact (Kd.C_below HR0_2.out HB.out) | (with_reducible refine Kd.C_alloc ?_ _) | (with_reducible refine Kd.C_drewN ?_ _) | (with_reducible refine Kd.C_drew ?_))); (case side6 => exact HC0_2.out); (case side7 => repeat (first | exact (Kd.C_below HR1_0.out HB.out) | (with_reducible refine Kd.C_alloc ?_ _) | (with_reducible refine Kd.C_drewN ?_ _) | (with_reducible refine Kd.C_drew ?_))); (case side8 => exact HC1_0.out); (case side9 => repeat (first | exact (Kd.C_below HR1_1.out HB.out) | (with_reducible refine Kd.C_alloc ?_ _) | (with_reducible refine Kd.C_drewN ?_ _) | (with_reducible refine Kd.C_drew ?_))); (case side10 => exact HC1_1.out); rintro e w32 ⟨rfl, hb⟩; refine ⟨_, rfl, ?_⟩; replace HO_00 := am_ (Kd.R_below (ru HO_00.out) hb); replace BK492 := am_ (blk_below (bu BK492.out) hb); replace BK493 := am_ (blk_below (bu BK493.out) hb); replace BK494 := am_ (blk_below (bu BK494.out) hb); replace BK495 := am_ (blk_below (bu BK495.out) hb); replace BK497 := am_ (blk_below (bu BK497.out) hb); replace HB := am_ (below_step z23_13 hb); (try clear hb); (try clear hb2); (try clear hk); (try clear hi); have hnb33 := NB495_494.out; have hnc33 := NB494_495.out; have hcz34_0 := cf0 BK495.out; have hcz34_1 := cf1 BK495.out; have hfz34_0 := blk_frozen BK495.out 0; have hfz34_1 := blk_frozen BK495.out 1) | ((with_reducible refine gate_builtin (b := .append) (xs := #[.tmp 31, .tmp 33]) rfl ?_); at_builtin; refine Kd.R_append (Kd.int .i64) (w0 := w) w.heap.size rfl (.tmp 31) (.tmp 33) 24 3 (.int .i64 0) 8 rfl Try.underlying24 info3 rfl (by decide) (by omega) u00 x00_1 t499 [.int .i64 t499] (fun _ => True) (fun _ => False) rfl rfl ?aP (fun _ hk => hk.elim) ?aF ?aO ?aB ?aS ?aL ?_; (case aP => exact rfl); (case aB => exact z23_13); (case aF => exact (fun _ _ => trivial)); (case aO => exact (ru HO_00.out)); (case aS => exact (below_size z23_13)); (case aL => have := LMc17.out; omega); intro v502 w35 ho hb hg hat; rw [← Ny501.out] at ho; replace BK492 := am_ (blk_grown (bu BK492.out) hg (Kd.R_ne HO_00.out BK492.out (by decide))); replace BK493 := am_ (blk_grown (bu BK493.out) hg (Kd.R_ne HO_00.out BK493.out (by decide))); replace BK494 := am_ (blk_grown (bu BK494.out) hg (Kd.R_ne HO_00.out BK494.out (by decide))); replace BK495 := am_ (blk_grown (bu BK495.out) hg (Kd.R_ne HO_00.out BK495.out (by decide))); replace BK497 := am_ (blk_grown (bu BK497.out) hg (Kd.R_ne HO_00.out BK497.out (by decide))); replace HB := am_ (hb); have HO503 := am_ (ho); clear HO_00; clear ho hb hg hat; obtain ⟨Ao36, co36, eo36⟩ := Kd.R_slice HO503.out; subst eo36; have hcz37_0 := cf0 BK495.out; have hcz37_1 := cf1 BK495.out; have hfz37_0 := blk_frozen BK495.out 0; have hfz37_1 := blk_frozen BK495.out 1))
        go_roundg k1
        case measure => have := HK1.out; omega
        case rel => exact ⟨(wrap64 (x16_1 + 1)), (y501), (.slice Ao36 y501.length co36), z23_1, H', ⟨by have := HK1.out; omega⟩, ⟨ru (Kd.R_mono (Kd.R_far (p := ⟨gb495, 0, none⟩) (Kd.R_types HO503.out BK495.out (by decide)) (fun _ hk => hk.2) (.slice Ao36 y501.length co36)) (fun _ hk => trivial))⟩, ⟨z23_8⟩, ⟨z23_9⟩, ⟨z23_10⟩, ⟨by (with_reducible repeat (first | refine blk_drewN ?_ _ | refine blk_drew ?_ | refine blk_alloc ?_ _)); refine blk_put (cs := #[u00, .slice none 0 0]) ?_ 0 _ rfl; (with_reducible repeat (first | refine blk_drewN ?_ _ | refine blk_drew ?_ | refine blk_alloc ?_ _)); exact BK495.out⟩, ⟨z23_13⟩⟩
       rw [if_neg c17] at H
       exact absurd H (by simp)
      replace c15 := Bool.eq_false_iff.mpr c15
      subst c15
      have H1 : (impl_scene_seen.l0 k1 l0_2 (l0_2.length : Int) (wrap64 (x16_1 + 1)) l0_0 l0_1 l0_2 l1_0 l1_1 x00_1) = some (r1, r2) := by rw [if_neg (show ¬ (false = true) by decide)] at H; exact H
      clear H
      have H := H1
      clear H1
      have H' := am_ H
      clear H
      have p496 : 0 ≤ (x16_1 : Int) := of_decide_eq_true z23_2
      have q496 : x16_1 < (l0_2.length : Int) := of_decide_eq_true z23_2
      obtain ⟨ad496, e496, hx496_0, hx496_1, hx496_2⟩ := at_T70 HR0_2.out x16_1 p496 q496
      cases e496
      replace hx496_0 := (HB.out.cell (World.block_lt_of_cell? w _ hx496_0)).trans hx496_0
      replace hx496_1 := (HB.out.cell (World.block_lt_of_cell? w _ hx496_1)).trans hx496_1
      replace hx496_2 := (HB.out.cell (World.block_lt_of_cell? w _ hx496_2)).trans hx496_2
      replace p496 := eq_true p496
      replace q496 := eq_true q496
      go_wp2_with (first | ((with_reducible refine gate_dst (N := 7) rfl ?_); refine box_event ?hg (N := 7) ?hd (cs := #[.int .i64 0, .int .i64 0, .int .i64 0]) (t := 70) ?hr ?_; (case hd => rfl); (case hg => rfl); (case hr => first | (go_simp; done) | (go_simp; rfl)); intro gb497 hg w38 hbox hb; have n0_ := am_ (Kd.R_below (ru HO_00.out) hb); have n1_ := am_ (blk_below (bu BK492.out) hb); have n2_ := am_ (blk_below (bu BK493.out) hb); have n3_ := am_ (blk_below (bu BK494.out) hb); have n4_ := am_ (blk_below (bu BK495.out) hb); have n5_ := am_ (below_step z23_11 hb); have n6_ := am_ (hbox); have n7_ := am_ (by rw [hg]; exact (below_size z23_11) : w.heap.size ≤ gb497); have n8_ := am_ (by rw [hg]; exact (below_size z23_11) : w.heap.size ≤ gb497); have n9_ := am_ (by rw [hg]; exact Nat.ne_of_lt (blk_lt (bu BK492.out)) : gb492 ≠ gb497); have n10_ := am_ (by rw [hg]; exact Nat.ne_of_gt (blk_lt (bu BK492.out)) : gb497 ≠ gb492); have n11_ := am_ (by rw [hg]; exact Nat.ne_of_lt (blk_lt (bu BK493.out)) : gb493 ≠ gb497); have n12_ := am_ (by rw [hg]; exact Nat.ne_of_gt (blk_lt (bu BK493.out)) : gb497 ≠ gb493); have n13_ := am_ (by rw [hg]; exact Nat.ne_of_lt (blk_lt (bu BK494.out)) : gb494 ≠ gb497); have n14_ := am_ (by rw [hg]; exact Nat.ne_of_gt (blk_lt (bu BK494.out)) : gb497 ≠ gb494); have n15_ := am_ (by rw [hg]; exact Nat.ne_of_lt (blk_lt (bu BK495.out)) : gb495 ≠ gb497); have n16_ := am_ (by rw [hg]; exact Nat.ne_of_gt (blk_lt (bu BK495.out)) : gb497 ≠ gb495); clear HO_00 BK492 BK493 BK494 BK495 HB; have HO_00 := n0_; have BK492 := n1_; have BK493 := n2_; have BK494 := n3_; have BK495 := n4_; have HB := n5_; have BK497 := n6_; have GW497 := n7_; have GE497 := n8_; have NB492_497 := n9_; have NB497_492 := n10_; have NB493_497 := n11_; have NB497_493 := n12_; have NB494_497 := n13_; have NB497_494 := n14_; have NB495_497 := n15_; have NB497_495 := n16_; clear n0_ n1_ n2_ n3_ n4_ n5_ n6_ n7_ n8_ n9_ n10_ n11_ n12_ n13_ n14_ n15_ n16_; clear hb hbox hg; have hnb39 := NB497_492.out; have hnc39 := NB492_497.out; have hnb40 := NB497_493.out; have hnc40 := NB493_497.out; have hnb41 := NB497_494.out; have hnc41 := NB494_497.out; have hnb42 := NB497_495.out; have hnc42 := NB495_497.out; have hcz43_0 := cf0 BK497.out; have hcz43_1 := cf1 BK497.out; have hcz43_2 := cf2 BK497.out; have hfz43_0 := blk_frozen BK497.out 0; have hfz43_1 := blk_frozen BK497.out 1; have hfz43_2 := blk_frozen BK497.out 2) | ((with_reducible refine gate_callee (f := 31) rfl ?_); refine goesL_ (some 22) rfl rfl Try.func31 (by kernel_rfl) rfl #[.agg #[.int .i64 ((rd_T70 l0_2 x16_1).f0), .int .i64 ((rd_T70 l0_2 x16_1).f1), .int .i64 ((rd_T70 l0_2 x16_1).f2)]] rfl (by (try simp only [List.map_toArray, List.map_cons, List.map_nil]); first | done | rfl | (simp only [List.length_drop, List.length_take]; rfl)) ?_; (with_reducible refine (impl_Do_reads.calls ((rd_T70 l0_2 x16_1).f0) ((rd_T70 l0_2 x16_1).f1) ((rd_T70 l0_2 x16_1).f2) false _ A14.out).mono ?_); rintro e w44 ⟨rfl, hb⟩; refine ⟨_, rfl, ?_⟩; replace HO_00 := am_ (Kd.R_below (ru (Kd.R_mono (Kd.R_far (p := ⟨gb497, 2, none⟩) (Kd.R_far (p := ⟨gb497, 1, none⟩) (Kd.R_far (p := ⟨gb497, 0, none⟩) (Kd.R_types HO_00.out BK497.out (by decide)) (fun _ hk => hk.2) (.int .i64 ((rd_T70 l0_2 x16_1).f0))) (fun _ hk => hk.2) (.int .i64 ((rd_T70 l0_2 x16_1).f1))) (fun _ hk => hk.2) (.int .i64 ((rd_T70 l0_2 x16_1).f2))) (fun _ h_ => h_.1))) hb); replace BK492 := am_ (blk_below (g := gb492) (o := .cells #[.slice A0_0 l0_0.length c0_0, .slice A0_1 l0_1.length c0_1, .slice (some ad496) l0_2.length c0_2] 60 (0, 0)) z23_14 hb); replace BK493 := am_ (blk_below (g := gb493) (o := .cells #[.slice A1_0 l1_0.length c1_0, .slice A1_1 l1_1.length c1_1] 40 (0, 0)) z23_15 hb); replace BK494 := am_ (blk_below (g := gb494) (o := .cells #[.slice none 0 0, .slice none 0 0] 26 (0, 0)) z23_16 hb); replace BK495 := am_ (blk_below (g := gb495) (o := .cells #[u00, .slice none 0 0] 26 (0, 0)) z23_17 hb); replace BK497 := am_ (blk_below (g := gb497) (o := .cells #[.int .i64 ((rd_T70 l0_2 x16_1).f0), .int .i64 ((rd_T70 l0_2 x16_1).f1), .int .i64 ((rd_T70 l0_2 x16_1).f2)] 70 (0, 0)) z23_18 hb); replace HB := am_ (below_step z23_13 hb); (try clear hb); (try clear hb2); (try clear hk); (try clear hi)))
      go_roundg k1
      case measure => have := HK1.out; omega
      case rel => exact ⟨(wrap64 (x16_1 + 1)), (x00_1), (u00), z23_1, H', ⟨by have := HK1.out; omega⟩, ⟨ru HO_00.out⟩, ⟨bu BK492.out⟩, ⟨bu BK493.out⟩, ⟨bu BK494.out⟩, ⟨bu BK495.out⟩, ⟨z23_13⟩⟩
     rw [if_neg c13] at H
     exact absurd H (by simp)
    rw [if_neg c12] at H
    exact absurd H (by simp)
   rw [if_neg c11] at H
   have c11b0 : decide (x16_1 < (l0_2.length : Int)) = false := decide_eq_false c11
   clear c11
   have H' := am_ H
   clear H
   have hnb45 := NB493_492.out
   have hnc45 := NB492_493.out
   have hnb46 := NB493_494.out
   have hnc46 := NB494_493.out
   have hnb47 := NB493_495.out
   have hnc47 := NB495_493.out
   have hcz48_0 := cf0 BK493.out
   have hcz48_1 := cf1 BK493.out
   have hfz48_0 := blk_frozen BK493.out 0
   have hfz48_1 := blk_frozen BK493.out 1
   go_wp2
   go_loopg [40] k1 (fun kq v40 w' => ∃ (x40_2 : Int) (x01_2 : List Int) (u01 : Value), v40 = .int .i64 x40_2 ∧ Aside0 (impl_scene_seen.l1 kq l1_1 (l1_1.length : Int) x40_2 l0_0 l0_1 l0_2 l1_0 l1_1 x00_1 x01_2 = some (r1, r2)) ∧ Aside0 (kq ≤ k1) ∧ Aside0 (Kd.R (Kd.int .i64) 3 w' w.heap.size (fun k_ => some k_ ≠ (u01 : Value).ownBlock) u00 x00_1) ∧ Aside0 (Kd.R (Kd.int .i64) 3 w' w.heap.size (fun k_ => some k_ ≠ (u00 : Value).ownBlock) u01 x01_2) ∧ Aside0 (w'.heap[gb492]? = some (.cells #[(.slice A0_0 l0_0.length c0_0), (.slice A0_1 l0_1.length c0_1), (.slice A0_2 l0_2.length c0_2)] 60 (0, 0))) ∧ Aside0 (w'.heap[gb493]? = some (.cells #[(.slice A1_0 l1_0.length c1_0), (.slice A1_1 l1_1.length c1_1)] 40 (0, 0))) ∧ Aside0 (w'.heap[gb494]? = some (.cells #[(.slice none 0 0), (.slice none 0 0)] 26 (0, 0))) ∧ Aside0 (w'.heap[gb495]? = some (.cells #[u00, u01] 26 (0, 0))) ∧ Aside0 (Below w.heap.size w w'))
   case atStart => exact ⟨(0), (([] : List Int)), (.slice none 0 0), z23_1, H', ⟨Nat.le_refl _⟩, ⟨ru (Kd.R_mono HO_00.out (fun _ hk => (by simp [Value.ownBlock])))⟩, ⟨z23_4⟩, ⟨bu BK492.out⟩, ⟨bu BK493.out⟩, ⟨bu BK494.out⟩, ⟨bu BK495.out⟩, ⟨z23_11⟩⟩
   case round =>
    clear H'
    obtain ⟨x40_2, x01_2, u01, rfl, HA, HK2, HO_00, HO_01, BK492, BK493, BK494, BK495, HB⟩ := hrel
    cases gk with
    | zero => exact absurd HA.out (by simp [impl_scene_seen.l1])
    | succ k2 =>
     have H := HA.out
     clear HA
     simp only [impl_scene_seen.l1] at H
     by_cases c49 : x40_2 < (l1_1.length : Int)
     ·rw [if_pos c49] at H
      have c49b0 : decide (x40_2 < (l1_1.length : Int)) = true := decide_eq_true c49
      clear c49
      by_cases c50 : 0 ≤ x40_2
      ·rw [if_pos c50] at H
       have c50b0 : decide (0 ≤ x40_2) = true := decide_eq_true c50
       clear c50
       by_cases c51 : x40_2 < (l1_1.length : Int)
       ·rw [if_pos c51] at H
        have c51b0 : decide (x40_2 < (l1_1.length : Int)) = true := decide_eq_true c51
        clear c51
        by_cases c52 : ((rd_L5 l1_1 x40_2).length : Int) > 0
        ·rw [if_pos c52] at H
         have c52b0 : decide (0 < ((rd_L5 l1_1 x40_2).length : Int)) = true := decide_eq_true c52
         have c52b1 : decide (0 < (rd_L5 l1_1 x40_2).length) = true := decide_eq_true (by omega)
         clear c52
         obtain ⟨ji53, hji53⟩ : ∃ j_ : Int, (wrap64 (((rd_L5 l1_1 x40_2).length : Int) - 1)) = j_ := ⟨_, rfl⟩
         replace H : (if 0 ≤ (ji53) then (if (ji53) < ((rd_L5 l1_1 x40_2).length : Int) then ((impl_scene_value.f k2 l0_0 l0_1 l0_2 l1_0 l1_1 (rd (rd_L5 l1_1 x40_2) (ji53))).bind fun bt506 => (if x01_2.length < 17592186044416 then (impl_scene_seen.l1 k2 l1_1 (l1_1.length : Int) (wrap64 (x40_2 + 1)) l0_0 l0_1 l0_2 l1_0 l1_1 x00_1 (x01_2 ++ [bt506.1])) else (none))) else (none)) else (none)) = some (r1, r2) := by first | (rw [hji53] at H; exact H) | (simp only [hji53] at H ⊢; exact H)
         have hji53w : (IntKind.i64.wrap (((rd_L5 l1_1 x40_2).length : Int) - 1)) = ji53 := (i64_w _).trans hji53
         by_cases c54 : 0 ≤ (ji53)
         ·rw [if_pos c54] at H
          have c54b0 : decide (0 ≤ (ji53)) = true := decide_eq_true c54
          clear c54
          by_cases c55 : (ji53) < ((rd_L5 l1_1 x40_2).length : Int)
          ·rw [if_pos c55] at H
           have c55b0 : decide ((ji53) < ((rd_L5 l1_1 x40_2).length : Int)) = true := decide_eq_true c55
           clear c55
           replace H := Option.bind_eq_some_iff.mp H
           obtain ⟨⟨t506, t507⟩, A560, H⟩ := H
           replace H : (if x01_2.length < 17592186044416 then (impl_scene_seen.l1 k2 l1_1 (l1_1.length : Int) (wrap64 (x40_2 + 1)) l0_0 l0_1 l0_2 l1_0 l1_1 x00_1 (x01_2 ++ [t506])) else (none)) = some (r1, r2) := H
           have A56 := am_ A560
           clear A560
           by_cases c57 : x01_2.length < 17592186044416
           ·rw [if_pos c57] at H
            have LMc57 := am_ c57
            clear c57
            obtain ⟨y508, hy508⟩ : ∃ y_ : List Int, y_ = (x01_2 ++ [t506]) := ⟨_, rfl⟩
            replace H : (impl_scene_seen.l1 k2 l1_1 (l1_1.length : Int) (wrap64 (x40_2 + 1)) l0_0 l0_1 l0_2 l1_0 l1_1 x00_1 y508) = some (r1, r2) := by first | (rw [hy508]; with_reducible exact H) | (have H2_ := (Option.bind_some _ _).symm.trans H; rw [hy508]; with_reducible exact H2_) | (have H2_ := (Option.bind_some _ _).symm.trans H; with_reducible exact H2_) | with_reducible exact H | (rw [hy508]; exact H) | exact H
            have Ny508 := am_ hy508
            clear hy508
            have H' := am_ H
            clear H
            have p504 : 0 ≤ (x40_2 : Int) := of_decide_eq_true z23_2
            have q504 : x40_2 < (l1_1.length : Int) := of_decide_eq_true z23_2
            obtain ⟨ad504, A504_0, c504_0, e504, hx504_0, hl504_0, hi504_0⟩ := at_L5 HR1_1.out x40_2 p504 q504
            cases e504
            replace hx504_0 := (HB.out.cell (World.block_lt_of_cell? w _ hx504_0)).trans hx504_0
            have HR504_0 := am_ hi504_0
            have HC504_0 := am_ hl504_0
            clear hi504_0 hl504_0
            replace p504 := eq_true p504
            replace q504 := eq_true q504
            try go_wp2
            replace HO_00 := am_ (Kd.R_drew HO_00.out)
            replace HO_01 := am_ (Kd.R_drew HO_01.out)
            replace BK492 := am_ (blk_drew BK492.out)
            replace BK493 := am_ (blk_drew BK493.out)
            replace BK494 := am_ (blk_drew BK494.out)
            replace BK495 := am_ (blk_drew BK495.out)
            replace HB := am_ (below_drew1 HB.out)
            have p505 : 0 ≤ ((ji53) : Int) := of_decide_eq_true z23_2
            have q505 : (ji53) < ((rd_L5 l1_1 x40_2).length : Int) := of_decide_eq_true z23_2
            obtain ⟨ad505, e505, hx505_0⟩ := Kd.at_int HR504_0.out (ji53) p505 q505
            have hw505_0 := hx505_0
            cases e505
            replace hx505_0 := (HB.out.cell (World.block_lt_of_cell? w _ hx505_0)).trans hx505_0
            replace p505 := eq_true p505
            replace q505 := eq_true q505
            refine start_ (n := 13) (S := fun w' => w'.cell? ⟨gb492, 0, none⟩ = some (.slice A0_0 l0_0.length c0_0) ∧ w'.cell? ⟨gb492, 1, none⟩ = some (.slice A0_1 l0_1.length c0_1) ∧ w'.cell? ⟨gb492, 2, none⟩ = some (.slice A0_2 l0_2.length c0_2) ∧ w'.cell? ⟨gb493, 0, none⟩ = some (.slice A1_0 l1_0.length c1_0) ∧ w'.cell? ⟨gb493, 1, none⟩ = some (.slice (some ad504) l1_1.length c1_1) ∧ w'.cell? (ad505.add ((ji53)).toNat) = some (.int .i64 (rd (rd_L5 l1_1 x40_2) (ji53)))) (ds := []) #[false, false, false, false, false, false, false, false, false, false, false, false, false] (by kernel_rfl) rfl rfl ⟨(blk_cell BK492.out 0).trans rfl, (blk_cell BK492.out 1).trans rfl, (blk_cell BK492.out 2).trans rfl, (blk_cell BK493.out 0).trans rfl, (blk_cell BK493.out 1).trans rfl, ((HB.out.cell (World.block_lt_of_cell? w _ hw505_0)).trans hw505_0)⟩ (fun hHeld => ?_); refine with_tabW impl_scene_seen.tab14 impl_scene_seen.bits14 (fun HT_ HW_ => ?_)
            generalize wr.drew = w58 at HO_00 HO_01 BK492 BK493 BK494 BK495 HB hx505_0 hHeld ⊢
            refine pure_ (i := 2) (N := some 50) (v := ?_) (a' := ?_) #[false, false, true, false, false, false, false, false, false, false, false, false, false] rfl rfl (any_of HT_.out (by kernel_rfl)) (fun _ _ _ h => h) (Or.inl ⟨by rfl, ?_⟩) ?_ ?_
            rotate_left
            ·intro w'
             go_simp
             with_reducible rfl
            rotate_left
            ·simp only [Act.put, List.setIfInBounds_toArray, List.set_cons_zero, List.set_cons_succ, i64_w, i32_w]
             rfl
            refine pure_ (i := 3) (N := some 51) (v := ?_) (a' := ?_) #[false, false, true, true, false, false, false, false, false, false, false, false, false] rfl rfl (any_of HT_.out (by kernel_rfl)) (fun _ _ _ h => h) (Or.inl ⟨by rfl, ?_⟩) ?_ ?_
            rotate_left
            ·intro w'
             go_simp
             with_reducible rfl
            rotate_left
            ·simp only [Act.put, List.setIfInBounds_toArray, List.set_cons_zero, List.set_cons_succ, i64_w, i32_w]
             rfl
            refine pure_ (i := 4) (N := some 52) (v := ?_) (a' := ?_) #[false, false, true, true, true, false, false, false, false, false, false, false, false] rfl rfl (any_of HT_.out (by kernel_rfl)) (fun _ _ _ h => h) (Or.inl ⟨by rfl, ?_⟩) ?_ ?_
            rotate_left
            ·intro w'
             go_simp
             with_reducible rfl
            rotate_left
            ·simp only [Act.put, List.setIfInBounds_toArray, List.set_cons_zero, List.set_cons_succ, i64_w, i32_w]
             rfl
            refine pure_ (i := 5) (N := some 53) (v := ?_) (a' := ?_) #[false, false, true, true, true, true, false, false, false, false, false, false, false] rfl rfl (any_of HT_.out (by kernel_rfl)) (fun _ _ _ h => h) (Or.inl ⟨by rfl, ?_⟩) ?_ ?_
            rotate_left
            ·intro w'
             go_simp
             with_reducible rfl
            rotate_left
            ·simp only [Act.put, List.setIfInBounds_toArray, List.set_cons_zero, List.set_cons_succ, i64_w, i32_w]
             rfl
            refine pure_ (i := 6) (N := some 54) (v := ?_) (a' := ?_) #[false, false, true, true, true, true, true, false, false, false, false, false, false] rfl rfl (any_of HT_.out (by kernel_rfl)) (fun _ _ _ h => h) (Or.inl ⟨by rfl, ?_⟩) ?_ ?_
            rotate_left
            ·intro w'
             go_simp
             with_reducible rfl
            rotate_left
            ·simp only [Act.put, List.setIfInBounds_toArray, List.set_cons_zero, List.set_cons_succ, i64_w, i32_w]
             rfl
            refine take_ (i := 0) (N := some 48) (v := ?_) (a' := ?_) #[true, false, true, true, true, true, true, false, false, false, false, false, false] rfl rfl (take_ofW HT_.out HW_.out (by kernel_rfl)) (fun _ _ _ h => h) (Or.inl ⟨by rfl, ?_⟩) hHeld ?_ ?_
            rotate_left
            ·rintro w' ⟨s0, s1, s2, s3, s4, s5⟩
             go_simp
             with_reducible rfl
            rotate_left
            ·simp only [Act.put, List.setIfInBounds_toArray, List.set_cons_zero, List.set_cons_succ, i64_w, i32_w]
             rfl
            refine take_ (i := 1) (N := some 49) (v := ?_) (a' := ?_) #[true, true, true, true, true, true, true, false, false, false, false, false, false] rfl rfl (take_ofW HT_.out HW_.out (by kernel_rfl)) (fun _ _ _ h => h) (Or.inl ⟨by rfl, ?_⟩) hHeld ?_ ?_
            rotate_left
            ·rintro w' ⟨s0, s1, s2, s3, s4, s5⟩
             go_simp
             with_reducible rfl
            rotate_left
            ·simp only [Act.put, List.setIfInBounds_toArray, List.set_cons_zero, List.set_cons_succ, i64_w, i32_w]
             rfl
            refine take_ (i := 7) (N := some 55) (v := ?_) (a' := ?_) #[true, true, true, true, true, true, true, true, false, false, false, false, false] rfl rfl (take_ofW HT_.out HW_.out (by kernel_rfl)) (fun _ _ _ h => h) (Or.inl ⟨by rfl, ?_⟩) hHeld ?_ ?_
            rotate_left
            ·rintro w' ⟨s0, s1, s2, s3, s4, s5⟩
             go_simp
             with_reducible rfl
            rotate_left
            ·simp only [Act.put, List.setIfInBounds_toArray, List.set_cons_zero, List.set_cons_succ, i64_w, i32_w]
             rfl
            refine one_ (i := 8) (N := some 56) #[true, true, true, true, true, true, true, true, true, false, false, false, false] rfl rfl (one_of HT_.out (by kernel_rfl)) (by decide) (fun K hK => ?_)
            refine goes_ Try.func39 (by kernel_rfl) rfl #[.agg #[.slice A0_0 l0_0.length c0_0, .slice A0_1 l0_1.length c0_1, .slice A0_2 l0_2.length c0_2], .agg #[.slice A1_0 l1_0.length c1_0, .slice (some ad504) l1_1.length c1_1], .int .i64 (rd (rd_L5 l1_1 x40_2) (ji53))] (by rfl) rfl rfl (by (try simp only [List.map_toArray, List.map_cons, List.map_nil]); first | done | (simp only [hji53]; rfl) | rfl | (simp only [List.length_drop, List.length_take]; rfl)) ?_
            with_reducible refine (impl_scene_value.calls k2 _ _ l0_0 _ _ l0_1 _ _ l0_2 _ _ l1_0 _ _ l1_1 (rd (rd_L5 l1_1 x40_2) (ji53)) t506 t507 _ ?side1 ?side2 ?side3 ?side4 ?side5 ?side6 ?side7 ?side8 ?side9 ?side10 A56.out).mono ?_
            (case side1 => repeat (first | exact (Kd.C_below HR0_0.out HB.out) | (with_reducible refine Kd.C_alloc ?_ _) | (with_reducible refine Kd.C_drewN ?_ _) | (with_reducible refine Kd.C_drew ?_)))
            (case side2 => exact HC0_0.out)
            (case side3 => repeat (first | exact (Kd.C_below HR0_1.out HB.out) | (with_reducible refine Kd.C_alloc ?_ _) | (with_reducible refine Kd.C_drewN ?_ _) | (with_reducible refine Kd.C_drew ?_)))
            (case side4 => exact HC0_1.out)
            (case side5 => repeat (first | exact (Kd.C_below HR0_2.out HB.out) | (with_reducible refine Kd.C_alloc ?_ _) | (with_reducible refine Kd.C_drewN ?_ _) | (with_reducible refine Kd.C_drew ?_)))
            (case side6 => exact HC0_2.out)
            (case side7 => repeat (first | exact (Kd.C_below HR1_0.out HB.out) | (with_reducible refine Kd.C_alloc ?_ _) | (with_reducible refine Kd.C_drewN ?_ _) | (with_reducible refine Kd.C_drew ?_)))
            (case side8 => exact HC1_0.out)
            (case side9 => repeat (first | exact (Kd.C_below HR1_1.out HB.out) | (with_reducible refine Kd.C_alloc ?_ _) | (with_reducible refine Kd.C_drewN ?_ _) | (with_reducible refine Kd.C_drew ?_)))
            (case side10 => exact HC1_1.out)
            rintro e w59 ⟨rfl, hb⟩
            refine ⟨_, rfl, ?_⟩
            replace HO_00 := am_ (Kd.R_below (ru HO_00.out) hb)
            replace HO_01 := am_ (Kd.R_below (ru HO_01.out) hb)
            replace BK492 := am_ (blk_below (bu BK492.out) hb)
            replace BK493 := am_ (blk_below (bu BK493.out) hb)
            replace BK494 := am_ (blk_below (bu BK494.out) hb)
            replace BK495 := am_ (blk_below (bu BK495.out) hb)
            replace HB := am_ (below_step z23_11 hb)
            (try clear hb)
            (try clear hb2)
            (try clear hk)
            (try clear hi)
            refine hK.out _ _ ⟨(blk_cell BK492.out 0).trans rfl, (blk_cell BK492.out 1).trans rfl, (blk_cell BK492.out 2).trans rfl, (blk_cell BK493.out 0).trans rfl, (blk_cell BK493.out 1).trans rfl, ((HB.out.cell (World.block_lt_of_cell? w _ hw505_0)).trans hw505_0)⟩ (fun hHeld => ?_)
            clear hK K
            refine norm_ (a' := ?_) ?_ ?_
            rotate_left
            ·show Act.put _ (some 56) _ = _
             simp only [Act.put, List.setIfInBounds_toArray, List.set_cons_zero, List.set_cons_succ, i64_w, i32_w]
             rfl
            refine pure_ (i := 9) (N := some 47) (v := ?_) (a' := ?_) #[true, true, true, true, true, true, true, true, true, true, false, false, false] rfl rfl (any_of HT_.out (by kernel_rfl)) (fun _ _ _ h => h) (Or.inl ⟨by rfl, ?_⟩) ?_ ?_
            rotate_left
            ·intro w'
             go_simp
             with_reducible rfl
            rotate_left
            ·simp only [Act.put, List.setIfInBounds_toArray, List.set_cons_zero, List.set_cons_succ, i64_w, i32_w]
             rfl
            refine pure_ (i := 10) (N := some 57) (v := ?_) (a' := ?_) #[true, true, true, true, true, true, true, true, true, true, true, false, false] rfl rfl (any_of HT_.out (by kernel_rfl)) (fun _ _ _ h => h) (Or.inl ⟨by rfl, ?_⟩) ?_ ?_
            rotate_left
            ·intro w'
             go_simp
             with_reducible rfl
            rotate_left
            ·simp only [Act.put, List.setIfInBounds_toArray, List.set_cons_zero, List.set_cons_succ, i64_w, i32_w]
             rfl
            refine pure_ (i := 11) (N := some 58) (v := ?_) (a' := ?_) #[true, true, true, true, true, true, true, true, true, true, true, true, false] rfl rfl (any_of HT_.out (by kernel_rfl)) (fun _ _ _ h => h) (Or.inl ⟨by rfl, ?_⟩) ?_ ?_
            rotate_left
            ·intro w'
             go_simp
             with_reducible rfl
            rotate_left
            ·simp only [Act.put, List.setIfInBounds_toArray, List.set_cons_zero, List.set_cons_succ, i64_w, i32_w]
             rfl
            refine pure_ (i := 12) (N := some 12) (v := ?_) (a' := ?_) #[true, true, true, true, true, true, true, true, true, true, true, true, true] rfl rfl (any_of HT_.out (by kernel_rfl)) (fun _ _ _ h => h) (Or.inl ⟨by rfl, ?_⟩) ?_ ?_
            rotate_left
            ·intro w'
             go_simp
             with_reducible rfl
            rotate_left
            ·simp only [Act.put, List.setIfInBounds_toArray, List.set_cons_zero, List.set_cons_succ, i64_w, i32_w]
             rfl
            refine done_ (done_of HT_.out (by kernel_rfl)) ?_
            have hnb60 := NB495_492.out
            have hnc60 := NB492_495.out
            have hnb61 := NB495_493.out
            have hnc61 := NB493_495.out
            have hnb62 := NB495_494.out
            have hnc62 := NB494_495.out
            have hcz63_0 := cf0 BK495.out
            have hcz63_1 := cf1 BK495.out
            have hfz63_0 := blk_frozen BK495.out 0
            have hfz63_1 := blk_frozen BK495.out 1
            try go_wp2_with (first | ((with_reducible refine gate_builtin (b := .append) (xs := #[.tmp 60, .tmp 62]) rfl ?_); at_builtin; refine Kd.R_append (Kd.int .i64) (w0 := w) w.heap.size rfl (.tmp 60) (.tmp 62) 24 3 (.int .i64 0) 8 rfl Try.underlying24 info3 rfl (by decide) (by omega) u01 x01_2 t506 [.int .i64 t506] (fun k_ => some k_ ≠ (u00 : Value).ownBlock) (fun _ => False) rfl rfl ?aP (fun _ hk => hk.elim) ?aF ?aO ?aB ?aS ?aL ?_; (case aP => exact rfl); (case aB => exact z23_11); (case aF => exact (fun k_ hk => Kd.fresh' (Kd.R_lt (ru HO_00.out)) k_ hk)); (case aO => exact (ru HO_01.out)); (case aS => exact (below_size z23_11)); (case aL => have := LMc57.out; omega); intro v509 w64 ho hb hg hat; rw [← Ny508.out] at ho; replace HO_00 := am_ (Kd.R_after (ok := (fun _ => True)) (ru (Kd.R_mono HO_00.out (fun _ hk => ⟨trivial, hk⟩))) hg hat); replace BK492 := am_ (blk_grown (bu BK492.out) hg (Kd.R_ne HO_01.out BK492.out (by decide))); replace BK493 := am_ (blk_grown (bu BK493.out) hg (Kd.R_ne HO_01.out BK493.out (by decide))); replace BK494 := am_ (blk_grown (bu BK494.out) hg (Kd.R_ne HO_01.out BK494.out (by decide))); replace BK495 := am_ (blk_grown (bu BK495.out) hg (Kd.R_ne HO_01.out BK495.out (by decide))); replace HB := am_ (hb); have HO510 := am_ (ho); clear HO_01; clear ho hb hg hat; obtain ⟨Ao65, co65, eo65⟩ := Kd.R_slice HO510.out; subst eo65; have hcz66_0 := cf0 BK495.out; have hcz66_1 := cf1 BK495.out; have hfz66_0 := blk_frozen BK495.out 0; have hfz66_1 := blk_frozen BK495.out 1))
            go_roundg k2
            case measure => have := HK1.out; have := HK2.out; omega
            case rel => exact ⟨(wrap64 (x40_2 + 1)), (y508), (.slice Ao65 y508.length co65), z23_1, H', ⟨by have := HK1.out; have := HK2.out; omega⟩, ⟨ru (Kd.R_mono (Kd.R_far (p := ⟨gb495, 1, none⟩) (Kd.R_types HO_00.out BK495.out (by decide)) (fun _ hk => hk.2) (.slice Ao65 y508.length co65)) (fun _ hk => hk.1.2))⟩, ⟨ru (Kd.R_mono (Kd.R_far (p := ⟨gb495, 1, none⟩) (Kd.R_types HO510.out BK495.out (by decide)) (fun _ hk => hk.2) (.slice Ao65 y508.length co65)) (fun _ hk => hk.1))⟩, ⟨z23_8⟩, ⟨z23_9⟩, ⟨z23_10⟩, ⟨z23_12⟩, ⟨z23_11⟩⟩
           rw [if_neg c57] at H
           exact absurd H (by simp)
          rw [if_neg c55] at H
          exact absurd H (by simp)
         rw [if_neg c54] at H
         exact absurd H (by simp)
        rw [if_neg c52] at H
        have c52b0 : decide (0 < ((rd_L5 l1_1 x40_2).length : Int)) = false := decide_eq_false c52
        have c52b1 : decide (0 < (rd_L5 l1_1 x40_2).length) = false := decide_eq_false (by omega)
        clear c52
        by_cases c67 : x01_2.length < 17592186044416
        ·rw [if_pos c67] at H
         have LMc67 := am_ c67
         clear c67
         obtain ⟨y511, hy511⟩ : ∃ y_ : List Int, y_ = (x01_2 ++ [0]) := ⟨_, rfl⟩
         replace H : (impl_scene_seen.l1 k2 l1_1 (l1_1.length : Int) (wrap64 (x40_2 + 1)) l0_0 l0_1 l0_2 l1_0 l1_1 x00_1 y511) = some (r1, r2) := by first | (rw [hy511]; with_reducible exact H) | (have H2_ := (Option.bind_some _ _).symm.trans H; rw [hy511]; with_reducible exact H2_) | (have H2_ := (Option.bind_some _ _).symm.trans H; with_reducible exact H2_) | with_reducible exact H | (rw [hy511]; exact H) | exact H
         have Ny511 := am_ hy511
         clear hy511
         have H' := am_ H
         clear H
         have p504 : 0 ≤ (x40_2 : Int) := of_decide_eq_true z23_2
         have q504 : x40_2 < (l1_1.length : Int) := of_decide_eq_true z23_2
         obtain ⟨ad504, A504_0, c504_0, e504, hx504_0, hl504_0, hi504_0⟩ := at_L5 HR1_1.out x40_2 p504 q504
         cases e504
         replace hx504_0 := (HB.out.cell (World.block_lt_of_cell? w _ hx504_0)).trans hx504_0
         have HR504_0 := am_ hi504_0
         have HC504_0 := am_ hl504_0
         clear hi504_0 hl504_0
         replace p504 := eq_true p504
         replace q504 := eq_true q504
         have hnb68 := NB495_492.out
         have hnc68 := NB492_495.out
         have hnb69 := NB495_493.out
         have hnc69 := NB493_495.out
         have hnb70 := NB495_494.out
         have hnc70 := NB494_495.out
         have hcz71_0 := cf0 BK495.out
         have hcz71_1 := cf1 BK495.out
         have hfz71_0 := blk_frozen BK495.out 0
         have hfz71_1 := blk_frozen BK495.out 1
         go_wp2_with (first | ((with_reducible refine gate_builtin (b := .append) (xs := #[.tmp 60, .tmp 62]) rfl ?_); at_builtin; refine Kd.R_append (Kd.int .i64) (w0 := w) w.heap.size rfl (.tmp 60) (.tmp 62) 24 3 (.int .i64 0) 8 rfl Try.underlying24 info3 rfl (by decide) (by omega) u01 x01_2 0 [.int .i64 0] (fun k_ => some k_ ≠ (u00 : Value).ownBlock) (fun _ => False) rfl rfl ?aP (fun _ hk => hk.elim) ?aF ?aO ?aB ?aS ?aL ?_; (case aP => exact rfl); (case aB => exact z23_11); (case aF => exact (fun k_ hk => Kd.fresh' (Kd.R_lt (ru HO_00.out)) k_ hk)); (case aO => exact (ru HO_01.out)); (case aS => exact (below_size z23_11)); (case aL => have := LMc67.out; omega); intro v512 w72 ho hb hg hat; rw [← Ny511.out] at ho; replace HO_00 := am_ (Kd.R_after (ok := (fun _ => True)) (ru (Kd.R_mono HO_00.out (fun _ hk => ⟨trivial, hk⟩))) hg hat); replace BK492 := am_ (blk_grown (bu BK492.out) hg (Kd.R_ne HO_01.out BK492.out (by decide))); replace BK493 := am_ (blk_grown (bu BK493.out) hg (Kd.R_ne HO_01.out BK493.out (by decide))); replace BK494 := am_ (blk_grown (bu BK494.out) hg (Kd.R_ne HO_01.out BK494.out (by decide))); replace BK495 := am_ (blk_grown (bu BK495.out) hg (Kd.R_ne HO_01.out BK495.out (by decide))); replace HB := am_ (hb); have HO513 := am_ (ho); clear HO_01; clear ho hb hg hat; obtain ⟨Ao73, co73, eo73⟩ := Kd.R_slice HO513.out; subst eo73; have hcz74_0 := cf0 BK495.out; have hcz74_1 := cf1 BK495.out; have hfz74_0 := blk_frozen BK495.out 0; have hfz74_1 := blk_frozen BK495.out 1))
         go_roundg k2
         case measure => have := HK1.out; have := HK2.out; omega
         case rel => exact ⟨(wrap64 (x40_2 + 1)), (y511), (.slice Ao73 y511.length co73), z23_1, H', ⟨by have := HK1.out; have := HK2.out; omega⟩, ⟨ru (Kd.R_mono (Kd.R_far (p := ⟨gb495, 1, none⟩) (Kd.R_types HO_00.out BK495.out (by decide)) (fun _ hk => hk.2) (.slice Ao73 y511.length co73)) (fun _ hk => hk.1.2))⟩, ⟨ru (Kd.R_mono (Kd.R_far (p := ⟨gb495, 1, none⟩) (Kd.R_types HO513.out BK495.out (by decide)) (fun _ hk => hk.2) (.slice Ao73 y511.length co73)) (fun _ hk => hk.1))⟩, ⟨z23_8⟩, ⟨z23_9⟩, ⟨z23_10⟩, ⟨z23_12⟩, ⟨z23_11⟩⟩
        rw [if_neg c67] at H
        exact absurd H (by simp)
       rw [if_neg c51] at H
       exact absurd H (by simp)
      rw [if_neg c50] at H
      exact absurd H (by simp)
     rw [if_neg c49] at H
     have c49b0 : decide (x40_2 < (l1_1.length : Int)) = false := decide_eq_false c49
     clear c49
     simp only [Option.some.injEq, Prod.mk.injEq] at H
     obtain ⟨rfl, rfl⟩ := H
     have hnb75 := NB495_492.out
     have hnc75 := NB492_495.out
     have hnb76 := NB495_493.out
     have hnc76 := NB493_495.out
     have hnb77 := NB495_494.out
     have hnc77 := NB494_495.out
     have hcz78_0 := cf0 BK495.out
     have hcz78_1 := cf1 BK495.out
     have hfz78_0 := blk_frozen BK495.out 0
     have hfz78_1 := blk_frozen BK495.out 1
     obtain ⟨Ao79, co79, eo79⟩ := Kd.R_slice HO_00.out
     subst eo79
     have hnb80 := NB494_492.out
     have hnc80 := NB492_494.out
     have hnb81 := NB494_493.out
     have hnc81 := NB493_494.out
     have hcz82_0 := cf0 BK494.out
     have hcz82_1 := cf1 BK494.out
     have hfz82_0 := blk_frozen BK494.out 0
     have hfz82_1 := blk_frozen BK494.out 1
     obtain ⟨Ao83, co83, eo83⟩ := Kd.R_slice HO_01.out
     subst eo83
     go_wp2
     refine bodyPost_ret (results_cell_row rfl _ _ gb494 26 #[.slice Ao79 x00_1.length co79, .slice Ao83 x01_2.length co83] (0, 0) _ rfl (by (with_reducible repeat (first | refine blk_drewN ?_ _ | refine blk_drew ?_ | refine blk_alloc ?_ _)); refine blk_put (cs := #[.slice Ao79 x00_1.length co79, .slice none 0 0]) ?_ 1 _ rfl; (with_reducible repeat (first | refine blk_drewN ?_ _ | refine blk_drew ?_ | refine blk_alloc ?_ _)); refine blk_put (cs := #[.slice none 0 0, .slice none 0 0]) ?_ 0 _ rfl; (with_reducible repeat (first | refine blk_drewN ?_ _ | refine blk_drew ?_ | refine blk_alloc ?_ _)); exact BK494.out) Try.underlying26 rfl (by kernel_rfl)) rfl ?_
     exact ⟨_, _, by first | rfl | (simp [errW_none, errW_some] <;> rfl) | (simp [*, errW_none, errW_some] <;> rfl), ru (Kd.R_mono (Kd.R_far (p := ⟨gb494, 1, none⟩) (Kd.R_far (p := ⟨gb494, 0, none⟩) (Kd.R_types HO_00.out BK494.out (by decide)) (fun _ hk => hk.2) (.slice Ao79 x00_1.length co79)) (fun _ hk => hk.2) (.slice Ao83 x01_2.length co83)) (fun _ hk => hk.1)), ru (Kd.R_mono (Kd.R_far (p := ⟨gb494, 1, none⟩) (Kd.R_far (p := ⟨gb494, 0, none⟩) (Kd.R_types HO_01.out BK494.out (by decide)) (fun _ hk => hk.2) (.slice Ao79 x00_1.length co79)) (fun _ hk => hk.2) (.slice Ao83 x01_2.length co83)) (fun _ hk => hk.1)), z23_11⟩

end Go.Proofs.Ytmkchdlkpbnldaa.PB

namespace Go.Proofs.Ytmkchdlkpbnldaa.PB
open Go.RowKit Go.Proofs.YtmkchdlkpbnldaaW.PrintWords Go.Proofs.YtmkchdlkpbnldaaW.PrintLast Go.Proofs.YtmkchdlkpbnldaaW.PrintMore
attribute [local go_sem] max2_int min2_int max_two min_two max_three min_three max_four min_four   -- for this text's walks alone
open Go.Proofs.YtmkchdlkpbnldaaMine
set_option linter.unusedVariables false
set_option linter.unusedSimpArgs false

theorem z10_1 {p : Prop} (h : p := by first | rfl | (simp [errW_none, errW_some] <;> rfl) | (simp [*, errW_none, errW_some] <;> rfl)) : p := h
theorem z10_2 {p : Prop} (h : p := by repeat (first | (with_reducible first | exact HB.out | apply below_alloc | apply pw_below_drewN | apply below_drew1) | exact HB.out)) : p := h
theorem z10_3 {p : Prop} (h : p := by first | exact Kd.R_nil _ _ _ _ _ | exact Kd.N_nil _ _ _ _ _ | exact Kd.V_nil _ _ _ _ _ | exact Kd.Q_nil _ _ _ _ _ | exact Kd.S_nil _ _ _ _ _) : p := h
theorem z10_4 {p : Prop} (h : p := by repeat (first | (with_reducible first | exact HB.out | apply below_alloc | apply pw_below_drewN | apply below_drew1 | refine below_set ?_ GE514.out) | exact HB.out)) : p := h
theorem z10_5 {p : Prop} (h : p := by repeat (first | (with_reducible first | exact HB.out | apply below_alloc | apply pw_below_drewN | apply below_drew1 | refine below_set ?_ GE514.out | refine below_set ?_ GE515.out) | exact HB.out)) : p := h
theorem z10_6 {p : Prop} (h : p := by repeat (first | (with_reducible first | exact HB.out | apply below_alloc | apply pw_below_drewN | apply below_drew1 | refine below_set ?_ GE514.out | refine below_set ?_ GE515.out | refine below_set ?_ GE516.out) | exact HB.out)) : p := h
/-! ### impl_ExecSeen: function 10 -/
def impl_ExecSeen.f (k : Nat) (l0_0 : List (List (S70))) (l1_0 : List Int) (l1_1 : List (List Int)) : Option (List Int × List Int × Bool) := (impl_ExecOk.f k l0_0 l1_0 l1_1).bind fun t517 => (if t517 = true then ((impl_sceneOf.f k l0_0).bind fun bt518 => ((impl_scene_seen.f k bt518.1 bt518.2.1 bt518.2.2 l1_0 l1_1).bind fun bt527 => (some (bt527.1, bt527.2, true)))) else (some (([] : List Int), ([] : List Int), false)))
set_option maxHeartbeats 8000000 in
set_option maxRecDepth 100000 in
theorem impl_ExecSeen.calls (k : Nat) (A0_0 : Option Addr) (c0_0 : Nat) (l0_0 : List (List (S70))) (A1_0 : Option Addr) (c1_0 : Nat) (l1_0 : List Int) (A1_1 : Option Addr) (c1_1 : Nat) (l1_1 : List (List Int)) (r1 : List Int) (r2 : List Int) (r3 : Bool) (w : World) (hr0_0 : Kd.C (Kd.slice 70 k70) w A0_0 l0_0.length l0_0) (hc0_0 : l0_0.length ≤ c0_0) (hr1_0 : Kd.C (Kd.int .i64) w A1_0 l1_0.length l1_0) (hc1_0 : l1_0.length ≤ c1_0) (hr1_1 : Kd.C (Kd.slice 3 (Kd.int .i64)) w A1_1 l1_1.length l1_1) (hc1_1 : l1_1.length ≤ c1_1) (h : impl_ExecSeen.f k l0_0 l1_0 l1_1 = some (r1, r2, r3)) :
  Calls Try.prog 10 #[.agg #[.slice A0_0 l0_0.length c0_0], .agg #[.slice A1_0 l1_0.length c1_0, .slice A1_1 l1_1.length c1_1]] w fun e w' => ∃ v0_ v1_ : Value, e = .returned (.tuple #[.agg #[v0_, v1_], .bool r3]) ∧ Kd.R (Kd.int .i64) 3 w' w.heap.size (fun k_ => some k_ ≠ (v1_ : Value).ownBlock) v0_ r1 ∧ Kd.R (Kd.int .i64) 3 w' w.heap.size (fun k_ => some k_ ≠ (v0_ : Value).ownBlock) v1_ r2 ∧ Below w.heap.size w w' := by
 have hu32 := Try.underlying32
 have hu40 := Try.underlying40
 have hu26 := Try.underlying26
 have HR0_0 := am_ hr0_0
 have HC0_0 := am_ hc0_0
 clear hr0_0 hc0_0
 have HR1_0 := am_ hr1_0
 have HC1_0 := am_ hc1_0
 clear hr1_0 hc1_0
 have HR1_1 := am_ hr1_1
 have HC1_1 := am_ hc1_1
 clear hr1_1 hc1_1
 have HB := am_ (Below.refl w.heap.size w)
 have H : ((impl_ExecOk.f k l0_0 l1_0 l1_1).bind fun t517 => (if t517 = true then ((impl_sceneOf.f k l0_0).bind fun bt518 => ((impl_scene_seen.f k bt518.1 bt518.2.1 bt518.2.2 l1_0 l1_1).bind fun bt527 => (some (bt527.1, bt527.2, true)))) else (some (([] : List Int), ([] : List Int), false)))) = some (r1, r2, r3) := h
 clear h
 replace H := Option.bind_eq_some_iff.mp H
 obtain ⟨t517, A30, H⟩ := H
 replace H : (if t517 = true then ((impl_sceneOf.f k l0_0).bind fun bt518 => ((impl_scene_seen.f k bt518.1 bt518.2.1 bt518.2.2 l1_0 l1_1).bind fun bt527 => (some (bt527.1, bt527.2, true)))) else (some (([] : List Int), ([] : List Int), false))) = some (r1, r2, r3) := H
 have A3 := am_ A30
 clear A30
 by_cases c4 : t517 = true
 ·subst c4
  have H1 : ((impl_sceneOf.f k l0_0).bind fun bt518 => ((impl_scene_seen.f k bt518.1 bt518.2.1 bt518.2.2 l1_0 l1_1).bind fun bt527 => (some (bt527.1, bt527.2, true)))) = some (r1, r2, r3) := by rw [if_pos rfl] at H; exact H
  clear H
  have H := H1
  clear H1
  replace H := Option.bind_eq_some_iff.mp H
  obtain ⟨⟨t518, t521, t524⟩, A50, H⟩ := H
  replace H : ((impl_scene_seen.f k t518 t521 t524 l1_0 l1_1).bind fun bt527 => (some (bt527.1, bt527.2, true))) = some (r1, r2, r3) := H
  have A5 := am_ A50
  clear A50
  replace H := Option.bind_eq_some_iff.mp H
  obtain ⟨⟨t527, t530⟩, A60, H⟩ := H
  replace H : (some (t527, t530, true)) = some (r1, r2, r3) := H
  have A6 := am_ A60
  clear A60
  simp only [Option.some.injEq, Prod.mk.injEq] at H
  obtain ⟨rfl, rfl, rfl⟩ := H
  go_enter Try.func10, Try.ntmps10
  try go_wp2_with (first | ((with_reducible refine gate_dst (N := 2) rfl ?_); refine box_event ?hg (N := 2) ?hd (cs := #[.slice A0_0 l0_0.length c0_0]) (t := 32) ?hr ?_; (case hd => rfl); (case hg => rfl); (case hr => first | (go_simp; done) | (go_simp; rfl)); intro gb514 hg w7 hbox hb; have n0_ := am_ (below_step z10_2 hb); have n1_ := am_ (hbox); have n2_ := am_ (by rw [hg]; exact (below_size z10_2) : w.heap.size ≤ gb514); have n3_ := am_ (by rw [hg]; exact (below_size z10_2) : w.heap.size ≤ gb514); clear HB; have HB := n0_; have BK514 := n1_; have GW514 := n2_; have GE514 := n3_; clear n0_ n1_ n2_ n3_; clear hb hbox hg) | ((with_reducible refine gate_dst (N := 3) rfl ?_); refine box_event ?hg (N := 3) ?hd (cs := #[.slice A1_0 l1_0.length c1_0, .slice A1_1 l1_1.length c1_1]) (t := 40) ?hr ?_; (case hd => rfl); (case hg => rfl); (case hr => first | (go_simp; done) | (go_simp; rfl)); intro gb515 hg w8 hbox hb; have n0_ := am_ (blk_below (bu BK514.out) hb); have n1_ := am_ (below_step z10_4 hb); have n2_ := am_ (hbox); have n3_ := am_ (by rw [hg]; exact (below_size z10_4) : w.heap.size ≤ gb515); have n4_ := am_ (by rw [hg]; exact (below_size z10_4) : w.heap.size ≤ gb515); have n5_ := am_ (by rw [hg]; exact Nat.ne_of_lt (blk_lt (bu BK514.out)) : gb514 ≠ gb515); have n6_ := am_ (by rw [hg]; exact Nat.ne_of_gt (blk_lt (bu BK514.out)) : gb515 ≠ gb514); clear BK514 HB; have BK514 := n0_; have HB := n1_; have BK515 := n2_; have GW515 := n3_; have GE515 := n4_; have NB514_515 := n5_; have NB515_514 := n6_; clear n0_ n1_ n2_ n3_ n4_ n5_ n6_; clear hb hbox hg) | ((with_reducible refine gate_dst (N := 4) rfl ?_); refine box_event ?hg (N := 4) ?hd (cs := #[.slice none 0 0, .slice none 0 0]) (t := 26) ?hr ?_; (case hd => rfl); (case hg => rfl); (case hr => first | (go_simp; done) | (go_simp; rfl)); intro gb516 hg w9 hbox hb; have n0_ := am_ (blk_below (bu BK514.out) hb); have n1_ := am_ (blk_below (bu BK515.out) hb); have n2_ := am_ (below_step z10_5 hb); have n3_ := am_ (hbox); have n4_ := am_ (by rw [hg]; exact (below_size z10_5) : w.heap.size ≤ gb516); have n5_ := am_ (by rw [hg]; exact (below_size z10_5) : w.heap.size ≤ gb516); have n6_ := am_ (by rw [hg]; exact Nat.ne_of_lt (blk_lt (bu BK514.out)) : gb514 ≠ gb516); have n7_ := am_ (by rw [hg]; exact Nat.ne_of_gt (blk_lt (bu BK514.out)) : gb516 ≠ gb514); have n8_ := am_ (by rw [hg]; exact Nat.ne_of_lt (blk_lt (bu BK515.out)) : gb515 ≠ gb516); have n9_ := am_ (by rw [hg]; exact Nat.ne_of_gt (blk_lt (bu BK515.out)) : gb516 ≠ gb515); clear BK514 BK515 HB; have BK514 := n0_; have BK515 := n1_; have HB := n2_; have BK516 := n3_; have GW516 := n4_; have GE516 := n5_; have NB514_516 := n6_; have NB516_514 := n7_; have NB515_516 := n8_; have NB516_515 := n9_; clear n0_ n1_ n2_ n3_ n4_ n5_ n6_ n7_ n8_ n9_; clear hb hbox hg; have hnb10 := NB514_515.out; have hnc10 := NB515_514.out; have hnb11 := NB514_516.out; have hnc11 := NB516_514.out; have hcz12_0 := cf0 BK514.out; have hfz12_0 := blk_frozen BK514.out 0; have hnb13 := NB515_516.out; have hnc13 := NB516_515.out; have hcz14_0 := cf0 BK515.out; have hcz14_1 := cf1 BK515.out; have hfz14_0 := blk_frozen BK515.out 0; have hfz14_1 := blk_frozen BK515.out 1) | ((with_reducible refine gate_callee (f := 22) rfl ?_); refine goesL_ (some 8) rfl rfl Try.func22 (by kernel_rfl) rfl #[.agg #[.slice A0_0 l0_0.length c0_0], .agg #[.slice A1_0 l1_0.length c1_0, .slice A1_1 l1_1.length c1_1]] rfl (by (try simp only [List.map_toArray, List.map_cons, List.map_nil]); first | done | rfl | (simp only [List.length_drop, List.length_take]; rfl)) ?_; (with_reducible refine (impl_ExecOk.calls k _ _ l0_0 _ _ l1_0 _ _ l1_1 true _ ?side1 ?side2 ?side3 ?side4 ?side5 ?side6 A3.out).mono ?_); (case side1 => repeat (first | exact (Kd.C_below HR0_0.out HB.out) | (with_reducible refine Kd.C_alloc ?_ _) | (with_reducible refine Kd.C_drewN ?_ _) | (with_reducible refine Kd.C_drew ?_))); (case side2 => exact HC0_0.out); (case side3 => repeat (first | exact (Kd.C_below HR1_0.out HB.out) | (with_reducible refine Kd.C_alloc ?_ _) | (with_reducible refine Kd.C_drewN ?_ _) | (with_reducible refine Kd.C_drew ?_))); (case side4 => exact HC1_0.out); (case side5 => repeat (first | exact (Kd.C_below HR1_1.out HB.out) | (with_reducible refine Kd.C_alloc ?_ _) | (with_reducible refine Kd.C_drewN ?_ _) | (with_reducible refine Kd.C_drew ?_))); (case side6 => exact HC1_1.out); rintro e w15 ⟨rfl, hb⟩; refine ⟨_, rfl, ?_⟩; replace BK514 := am_ (blk_below (bu BK514.out) hb); replace BK515 := am_ (blk_below (bu BK515.out) hb); replace BK516 := am_ (blk_below (bu BK516.out) hb); replace HB := am_ (below_step z10_6 hb); (try clear hb); (try clear hb2); (try clear hk); (try clear hi)))
  replace BK514 := am_ (blk_drew BK514.out)
  replace BK515 := am_ (blk_drew BK515.out)
  replace BK516 := am_ (blk_drew BK516.out)
  replace HB := am_ (below_drew1 HB.out)
  refine start_ (n := 6) (S := fun w' => w'.cell? ⟨gb514, 0, none⟩ = some (.slice A0_0 l0_0.length c0_0) ∧ w'.cell? ⟨gb515, 0, none⟩ = some (.slice A1_0 l1_0.length c1_0) ∧ w'.cell? ⟨gb515, 1, none⟩ = some (.slice A1_1 l1_1.length c1_1)) (ds := []) #[false, false, false, false, false, false] (by kernel_rfl) rfl rfl ⟨(blk_cell BK514.out 0).trans rfl, (blk_cell BK515.out 0).trans rfl, (blk_cell BK515.out 1).trans rfl⟩ (fun hHeld => ?_)
  generalize w15.drew = w16 at BK514 BK515 BK516 HB hHeld ⊢
  refine take_ (i := 0) (N := some 11) (v := ?_) (a' := ?_) #[true, false, false, false, false, false] rfl rfl (by kernel_rfl) (fun _ _ _ h => h) (Or.inl ⟨by rfl, ?_⟩) hHeld ?_ ?_
  rotate_left
  ·rintro w' ⟨s0, s1, s2⟩
   go_simp
   with_reducible rfl
  rotate_left
  ·simp only [Act.put, List.setIfInBounds_toArray, List.set_cons_zero, List.set_cons_succ, i64_w, i32_w]
   rfl
  refine take_ (i := 2) (N := some 13) (v := ?_) (a' := ?_) #[true, false, true, false, false, false] rfl rfl (by kernel_rfl) (fun _ _ _ h => h) (Or.inl ⟨by rfl, ?_⟩) hHeld ?_ ?_
  rotate_left
  ·rintro w' ⟨s0, s1, s2⟩
   go_simp
   with_reducible rfl
  rotate_left
  ·simp only [Act.put, List.setIfInBounds_toArray, List.set_cons_zero, List.set_cons_succ, i64_w, i32_w]
   rfl
  refine one_ (i := 1) (N := some 12) #[true, true, true, false, false, false] rfl rfl (by kernel_rfl) (by decide) (fun K hK => ?_)
  refine goes_ Try.func20 (by kernel_rfl) rfl #[.agg #[.slice A0_0 l0_0.length c0_0]] (by rfl) rfl rfl (by (try simp only [List.map_toArray, List.map_cons, List.map_nil]); first | done | rfl | (simp only [List.length_drop, List.length_take]; rfl)) ?_
  with_reducible refine (impl_sceneOf.calls k (fun k_ => k_ < w.heap.size) _ _ l0_0 t518 t521 t524 _ ?side1 A5.out).mono ?_
  (case side1 => exact Kd.V_mk HC0_0.out (Kd.F_below (Kd.C_F (Kd.heap_slice 70 k70_heap) HR0_0.out) z10_6))
  rintro e w17 ⟨v519, v522, v525, rfl, ho0, ho1, ho2, hb⟩
  refine ⟨_, rfl, ?_⟩
  have HO520 := am_ (Kd.V_lower (Kd.V_mono (ok' := fun k_ => some k_ ≠ (v522 : Value).ownBlock ∧ some k_ ≠ (v525 : Value).ownBlock ∧ k_ ≠ gb514 ∧ k_ ≠ gb515 ∧ k_ ≠ gb516) ho0 (fun k_ hk_ => ⟨hk_.2.1, hk_.2.2, Or.elim hk_.1 (fun hs_ => fun e_ => Nat.not_le.2 hs_ (by rw [e_]; exact GW514.out)) (fun hn_ => (Kd.freshB (bu BK514.out) k_ hn_)), Or.elim hk_.1 (fun hs_ => fun e_ => Nat.not_le.2 hs_ (by rw [e_]; exact GW515.out)) (fun hn_ => (Kd.freshB (bu BK515.out) k_ hn_)), Or.elim hk_.1 (fun hs_ => fun e_ => Nat.not_le.2 hs_ (by rw [e_]; exact GW516.out)) (fun hn_ => (Kd.freshB (bu BK516.out) k_ hn_))⟩)) (below_size z10_6))
  have HO523 := am_ (Kd.R_lower (Kd.R_mono (ok' := fun k_ => True) ho1 (fun _ hk_ => trivial)) (below_size z10_6))
  have HO526 := am_ (Kd.R_lower (Kd.R_mono (ok' := fun k_ => True) ho2 (fun _ hk_ => trivial)) (below_size z10_6))
  replace BK514 := am_ (blk_below (bu BK514.out) hb)
  replace BK515 := am_ (blk_below (bu BK515.out) hb)
  replace BK516 := am_ (blk_below (bu BK516.out) hb)
  replace HB := am_ (below_step z10_6 hb)
  (try clear hb)
  (try clear hb2)
  (try clear hk)
  (try clear hi)
  (try clear ho0)
  (try clear ho1)
  (try clear ho2)
  obtain ⟨Ao18, co18, eo18⟩ := Kd.V_slice HO520.out
  (first | subst eo18 | (injection eo18 with f1_ f2_ f3_; have f4_ := f1_.symm; have f5_ := f3_.symm; clear f1_ f2_ f3_; subst f4_; subst f5_))
  obtain ⟨Ao19, co19, eo19⟩ := Kd.R_slice HO523.out
  (first | subst eo19 | (injection eo19 with f1_ f2_ f3_; have f4_ := f1_.symm; have f5_ := f3_.symm; clear f1_ f2_ f3_; subst f4_; subst f5_))
  obtain ⟨Ao20, co20, eo20⟩ := Kd.R_slice HO526.out
  (first | subst eo20 | (injection eo20 with f1_ f2_ f3_; have f4_ := f1_.symm; have f5_ := f3_.symm; clear f1_ f2_ f3_; subst f4_; subst f5_))
  refine hK.out _ _ ⟨(blk_cell BK514.out 0).trans rfl, (blk_cell BK515.out 0).trans rfl, (blk_cell BK515.out 1).trans rfl⟩ (fun hHeld => ?_)
  clear hK K
  refine norm_ (a' := ?_) ?_ ?_
  rotate_left
  ·show Act.put _ (some 12) _ = _
   simp only [Act.put, List.setIfInBounds_toArray, List.set_cons_zero, List.set_cons_succ, i64_w, i32_w]
   rfl
  refine one_ (i := 3) (N := some 14) #[true, true, true, true, false, false] rfl rfl (by kernel_rfl) (by decide) (fun K hK => ?_)
  refine goes_ Try.func23 (by kernel_rfl) rfl #[.agg #[.slice Ao18 t518.length co18, .slice Ao19 t521.length co19, .slice Ao20 t524.length co20], .agg #[.slice A1_0 l1_0.length c1_0, .slice A1_1 l1_1.length c1_1]] (by rfl) rfl rfl (by (try simp only [List.map_toArray, List.map_cons, List.map_nil]); first | done | rfl | (simp only [List.length_drop, List.length_take]; rfl)) ?_
  with_reducible refine (impl_scene_seen.calls k _ _ t518 _ _ t521 _ _ t524 _ _ l1_0 _ _ l1_1 t527 t530 _ ?side1 ?side2 ?side3 ?side4 ?side5 ?side6 ?side7 ?side8 ?side9 ?side10 A6.out).mono ?_
  (case side1 => repeat (first | exact (Kd.V_reads' HO520.out).2.2 | (with_reducible refine Kd.C_alloc ?_ _) | (with_reducible refine Kd.C_drewN ?_ _) | (with_reducible refine Kd.C_drew ?_)))
  (case side2 => exact (Kd.V_reads' HO520.out).2.1)
  (case side3 => repeat (first | exact (Kd.R_reads' HO523.out).2.2 | (with_reducible refine Kd.C_alloc ?_ _) | (with_reducible refine Kd.C_drewN ?_ _) | (with_reducible refine Kd.C_drew ?_)))
  (case side4 => exact (Kd.R_reads' HO523.out).2.1)
  (case side5 => repeat (first | exact (Kd.R_reads' HO526.out).2.2 | (with_reducible refine Kd.C_alloc ?_ _) | (with_reducible refine Kd.C_drewN ?_ _) | (with_reducible refine Kd.C_drew ?_)))
  (case side6 => exact (Kd.R_reads' HO526.out).2.1)
  (case side7 => repeat (first | exact (Kd.C_below HR1_0.out HB.out) | (with_reducible refine Kd.C_alloc ?_ _) | (with_reducible refine Kd.C_drewN ?_ _) | (with_reducible refine Kd.C_drew ?_)))
  (case side8 => exact HC1_0.out)
  (case side9 => repeat (first | exact (Kd.C_below HR1_1.out HB.out) | (with_reducible refine Kd.C_alloc ?_ _) | (with_reducible refine Kd.C_drewN ?_ _) | (with_reducible refine Kd.C_drew ?_)))
  (case side10 => exact HC1_1.out)
  rintro e w21 ⟨v528, v531, rfl, ho0, ho1, hb⟩
  refine ⟨_, rfl, ?_⟩
  replace HO520 := am_ (Kd.V_mono (Kd.V_told (Kd.V_told (Kd.V_old (vu HO520.out) hb) (Kd.R_base ho0)) (Kd.R_base ho1)) (fun _ h_ => h_.1))
  replace HO523 := am_ (Kd.R_below (ru HO523.out) hb)
  replace HO526 := am_ (Kd.R_below (ru HO526.out) hb)
  have HO529 := am_ (Kd.R_lower ho0 (below_size z10_6))
  have HO532 := am_ (Kd.R_lower ho1 (below_size z10_6))
  replace BK514 := am_ (blk_below (bu BK514.out) hb)
  replace BK515 := am_ (blk_below (bu BK515.out) hb)
  replace BK516 := am_ (blk_below (bu BK516.out) hb)
  replace HB := am_ (below_step z10_6 hb)
  (try clear hb)
  (try clear hb2)
  (try clear hk)
  (try clear hi)
  (try clear ho0)
  (try clear ho1)
  obtain ⟨Ao22, co22, eo22⟩ := Kd.R_slice HO529.out
  (first | subst eo22 | (injection eo22 with f1_ f2_ f3_; have f4_ := f1_.symm; have f5_ := f3_.symm; clear f1_ f2_ f3_; subst f4_; subst f5_))
  obtain ⟨Ao24, co24, eo24⟩ := Kd.R_slice HO532.out
  (first | subst eo24 | (injection eo24 with f1_ f2_ f3_; have f4_ := f1_.symm; have f5_ := f3_.symm; clear f1_ f2_ f3_; subst f4_; subst f5_))
  refine hK.out _ _ ⟨(blk_cell BK514.out 0).trans rfl, (blk_cell BK515.out 0).trans rfl, (blk_cell BK515.out 1).trans rfl⟩ (fun hHeld => ?_)
  clear hK K
  refine norm_ (a' := ?_) ?_ ?_
  rotate_left
  ·show Act.put _ (some 14) _ = _
   simp only [Act.put, List.setIfInBounds_toArray, List.set_cons_zero, List.set_cons_succ, i64_w, i32_w]
   rfl
  refine one_ (i := 4) (N := none) #[true, true, true, true, true, false] rfl rfl (by kernel_rfl) (by decide) (fun K hK => ?_)
  have hs23 : w21.cell? ⟨gb516, 0, none⟩ = some (.slice none 0 0) := (blk_cell BK516.out 0).trans rfl
  have hfs23 := blk_frozen BK516.out 0
  have hns23_0 := NB514_516.out
  have hns23_1 := NB515_516.out
  have hms23_0 := NB516_514.out
  have hms23_1 := NB516_515.out
  have hs25 : w21.cell? ⟨gb516, 1, none⟩ = some (.slice none 0 0) := (blk_cell BK516.out 1).trans rfl
  have hfs25 := blk_frozen BK516.out 1
  have hns25_0 := NB514_516.out
  have hns25_1 := NB515_516.out
  have hms25_0 := NB516_514.out
  have hms25_1 := NB516_515.out
  refine skip_ (w1 := ?_) (by rfl) rfl ?_ ?_
  rotate_left
  ·go_simp
   rfl
  refine hK.out _ _ ⟨((cell_far (p := ⟨gb516, _, none⟩) NB514_516.out _).trans (((cell_far (p := ⟨gb516, _, none⟩) NB514_516.out _).trans (hHeld.1)))), ((cell_far (p := ⟨gb516, _, none⟩) NB515_516.out _).trans (((cell_far (p := ⟨gb516, _, none⟩) NB515_516.out _).trans (hHeld.2.1)))), ((cell_far (p := ⟨gb516, _, none⟩) NB515_516.out _).trans (((cell_far (p := ⟨gb516, _, none⟩) NB515_516.out _).trans (hHeld.2.2))))⟩ (fun hHeld => ?_)
  clear hK K
  refine pure_ (i := 5) (N := some 5) (v := ?_) (a' := ?_) #[true, true, true, true, true, true] rfl rfl (by kernel_rfl) (fun _ _ _ h => h) (Or.inl ⟨by rfl, ?_⟩) ?_ ?_
  rotate_left
  ·intro w'
   go_simp
   with_reducible rfl
  rotate_left
  ·simp only [Act.put, List.setIfInBounds_toArray, List.set_cons_zero, List.set_cons_succ, i64_w, i32_w]
   rfl
  refine done_ (by kernel_rfl) ?_
  try go_wp2
  refine bodyPost_ret (results_ct rfl _ _ gb516 26 #[.slice Ao22 t527.length co22, .slice Ao24 t530.length co24] (0, 0) _ rfl (by (with_reducible repeat (first | refine blk_drewN ?_ _ | refine blk_drew ?_ | refine blk_alloc ?_ _)); refine blk_put (cs := #[.slice Ao22 t527.length co22, .slice none 0 0]) ?_ 1 _ rfl; (with_reducible repeat (first | refine blk_drewN ?_ _ | refine blk_drew ?_ | refine blk_alloc ?_ _)); refine blk_put (cs := #[.slice none 0 0, .slice none 0 0]) ?_ 0 _ rfl; (with_reducible repeat (first | refine blk_drewN ?_ _ | refine blk_drew ?_ | refine blk_alloc ?_ _)); exact BK516.out) Try.underlying26 rfl (by kernel_rfl)) rfl ?_
  exact ⟨_, _, z10_1, ru (Kd.R_mono (Kd.R_far (p := ⟨gb516, 1, none⟩) (Kd.R_far (p := ⟨gb516, 0, none⟩) (Kd.R_types HO529.out BK516.out (by decide)) (fun _ hk => hk.2) (.slice Ao22 t527.length co22)) (fun _ hk => hk.2) (.slice Ao24 t530.length co24)) (fun _ hk => hk.1)), ru (Kd.R_mono (Kd.R_far (p := ⟨gb516, 1, none⟩) (Kd.R_far (p := ⟨gb516, 0, none⟩) (Kd.R_types HO532.out BK516.out (by decide)) (fun _ hk => hk.2) (.slice Ao22 t527.length co22)) (fun _ hk => hk.2) (.slice Ao24 t530.length co24)) (fun _ hk => hk.1)), z10_6⟩
 replace c4 := Bool.eq_false_iff.mpr c4
 subst c4
 have H1 : (some (([] : List Int), ([] : List Int), false)) = some (r1, r2, r3) := by rw [if_neg (show ¬ (false = true) by decide)] at H; exact H
 clear H
 have H := H1
 clear H1
 simp only [Option.some.injEq, Prod.mk.injEq] at H
 obtain ⟨rfl, rfl, rfl⟩ := H
 go_enter Try.func10, Try.ntmps10
 go_wp2_with (first | ((with_reducible refine gate_dst (N := 2) rfl ?_); refine box_event ?hg (N := 2) ?hd (cs := #[.slice A0_0 l0_0.length c0_0]) (t := 32) ?hr ?_; (case hd => rfl); (case hg => rfl); (case hr => first | (go_simp; done) | (go_simp; rfl)); intro gb514 hg w26 hbox hb; have n0_ := am_ (below_step z10_2 hb); have n1_ := am_ (hbox); have n2_ := am_ (by rw [hg]; exact (below_size z10_2) : w.heap.size ≤ gb514); have n3_ := am_ (by rw [hg]; exact (below_size z10_2) : w.heap.size ≤ gb514); clear HB; have HB := n0_; have BK514 := n1_; have GW514 := n2_; have GE514 := n3_; clear n0_ n1_ n2_ n3_; clear hb hbox hg) | ((with_reducible refine gate_dst (N := 3) rfl ?_); refine box_event ?hg (N := 3) ?hd (cs := #[.slice A1_0 l1_0.length c1_0, .slice A1_1 l1_1.length c1_1]) (t := 40) ?hr ?_; (case hd => rfl); (case hg => rfl); (case hr => first | (go_simp; done) | (go_simp; rfl)); intro gb515 hg w27 hbox hb; have n0_ := am_ (blk_below (bu BK514.out) hb); have n1_ := am_ (below_step z10_4 hb); have n2_ := am_ (hbox); have n3_ := am_ (by rw [hg]; exact (below_size z10_4) : w.heap.size ≤ gb515); have n4_ := am_ (by rw [hg]; exact (below_size z10_4) : w.heap.size ≤ gb515); have n5_ := am_ (by rw [hg]; exact Nat.ne_of_lt (blk_lt (bu BK514.out)) : gb514 ≠ gb515); have n6_ := am_ (by rw [hg]; exact Nat.ne_of_gt (blk_lt (bu BK514.out)) : gb515 ≠ gb514); clear BK514 HB; have BK514 := n0_; have HB := n1_; have BK515 := n2_; have GW515 := n3_; have GE515 := n4_; have NB514_515 := n5_; have NB515_514 := n6_; clear n0_ n1_ n2_ n3_ n4_ n5_ n6_; clear hb hbox hg) | ((with_reducible refine gate_dst (N := 4) rfl ?_); refine box_event ?hg (N := 4) ?hd (cs := #[.slice none 0 0, .slice none 0 0]) (t := 26) ?hr ?_; (case hd => rfl); (case hg => rfl); (case hr => first | (go_simp; done) | (go_simp; rfl)); intro gb516 hg w28 hbox hb; have n0_ := am_ (blk_below (bu BK514.out) hb); have n1_ := am_ (blk_below (bu BK515.out) hb); have n2_ := am_ (below_step z10_5 hb); have n3_ := am_ (hbox); have n4_ := am_ (by rw [hg]; exact (below_size z10_5) : w.heap.size ≤ gb516); have n5_ := am_ (by rw [hg]; exact (below_size z10_5) : w.heap.size ≤ gb516); have n6_ := am_ (by rw [hg]; exact Nat.ne_of_lt (blk_lt (bu BK514.out)) : gb514 ≠ gb516); have n7_ := am_ (by rw [hg]; exact Nat.ne_of_gt (blk_lt (bu BK514.out)) : gb516 ≠ gb514); have n8_ := am_ (by rw [hg]; exact Nat.ne_of_lt (blk_lt (bu BK515.out)) : gb515 ≠ gb516); have n9_ := am_ (by rw [hg]; exact Nat.ne_of_gt (blk_lt (bu BK515.out)) : gb516 ≠ gb515); clear BK514 BK515 HB; have BK514 := n0_; have BK515 := n1_; have HB := n2_; have BK516 := n3_; have GW516 := n4_; have GE516 := n5_; have NB514_516 := n6_; have NB516_514 := n7_; have NB515_516 := n8_; have NB516_515 := n9_; clear n0_ n1_ n2_ n3_ n4_ n5_ n6_ n7_ n8_ n9_; clear hb hbox hg; have hnb29 := NB514_515.out; have hnc29 := NB515_514.out; have hnb30 := NB514_516.out; have hnc30 := NB516_514.out; have hcz31_0 := cf0 BK514.out; have hfz31_0 := blk_frozen BK514.out 0; have hnb32 := NB515_516.out; have hnc32 := NB516_515.out; have hcz33_0 := cf0 BK515.out; have hcz33_1 := cf1 BK515.out; have hfz33_0 := blk_frozen BK515.out 0; have hfz33_1 := blk_frozen BK515.out 1) | ((with_reducible refine gate_callee (f := 22) rfl ?_); refine goesL_ (some 8) rfl rfl Try.func22 (by kernel_rfl) rfl #[.agg #[.slice A0_0 l0_0.length c0_0], .agg #[.slice A1_0 l1_0.length c1_0, .slice A1_1 l1_1.length c1_1]] rfl (by (try simp only [List.map_toArray, List.map_cons, List.map_nil]); first | done | rfl | (simp only [List.length_drop, List.length_take]; rfl)) ?_; (with_reducible refine (impl_ExecOk.calls k _ _ l0_0 _ _ l1_0 _ _ l1_1 false _ ?side1 ?side2 ?side3 ?side4 ?side5 ?side6 A3.out).mono ?_); (case side1 => repeat (first | exact (Kd.C_below HR0_0.out HB.out) | (with_reducible refine Kd.C_alloc ?_ _) | (with_reducible refine Kd.C_drewN ?_ _) | (with_reducible refine Kd.C_drew ?_))); (case side2 => exact HC0_0.out); (case side3 => repeat (first | exact (Kd.C_below HR1_0.out HB.out) | (with_reducible refine Kd.C_alloc ?_ _) | (with_reducible refine Kd.C_drewN ?_ _) | (with_reducible refine Kd.C_drew ?_))); (case side4 => exact HC1_0.out); (case side5 => repeat (first | exact (Kd.C_below HR1_1.out HB.out) | (with_reducible refine Kd.C_alloc ?_ _) | (with_reducible refine Kd.C_drewN ?_ _) | (with_reducible refine Kd.C_drew ?_))); (case side6 => exact HC1_1.out); rintro e w34 ⟨rfl, hb⟩; refine ⟨_, rfl, ?_⟩; replace BK514 := am_ (blk_below (bu BK514.out) hb); replace BK515 := am_ (blk_below (bu BK515.out) hb); replace BK516 := am_ (blk_below (bu BK516.out) hb); replace HB := am_ (below_step z10_6 hb); (try clear hb); (try clear hb2); (try clear hk); (try clear hi); have hcz35_0 := cf0 BK516.out; have hcz35_1 := cf1 BK516.out; have hfz35_0 := blk_frozen BK516.out 0; have hfz35_1 := blk_frozen BK516.out 1))
 refine bodyPost_ret (results_ct rfl _ _ gb516 26 #[.slice none 0 0, .slice none 0 0] (0, 0) _ rfl (by (with_reducible repeat (first | refine blk_drewN ?_ _ | refine blk_drew ?_ | refine blk_alloc ?_ _)); refine blk_put (cs := #[.slice none 0 0, .slice none 0 0]) ?_ 1 _ rfl; (with_reducible repeat (first | refine blk_drewN ?_ _ | refine blk_drew ?_ | refine blk_alloc ?_ _)); refine blk_put (cs := #[.slice none 0 0, .slice none 0 0]) ?_ 0 _ rfl; (with_reducible repeat (first | refine blk_drewN ?_ _ | refine blk_drew ?_ | refine blk_alloc ?_ _)); exact BK516.out) Try.underlying26 rfl (by kernel_rfl)) rfl ?_
 exact ⟨_, _, z10_1, z10_3, z10_3, z10_6⟩

end Go.Proofs.Ytmkchdlkpbnldaa.PB

namespace Go.Proofs.Ytmkchdlkpbnldaa.PB
open Go.RowKit Go.Proofs.YtmkchdlkpbnldaaW.PrintWords Go.Proofs.YtmkchdlkpbnldaaW.PrintLast Go.Proofs.YtmkchdlkpbnldaaW.PrintMore
attribute [local go_sem] max2_int min2_int max_two min_two max_three min_three max_four min_four   -- for this text's walks alone
open Go.Proofs.YtmkchdlkpbnldaaMine
set_option linter.unusedVariables false
set_option linter.unusedSimpArgs false

theorem z40_1 {p : Prop} (h : p := by first | rfl | (simp; done) | (simp [*]; done)) : p := h
theorem z40_2 {p : Prop} (h : p := by first | (with_reducible assumption) | assumption) : p := h
theorem z40_3 {p : Prop} (h : p := by repeat (first | (with_reducible first | exact HB.out | apply below_alloc | apply pw_below_drewN | apply below_drew1) | exact HB.out)) : p := h
theorem z40_4 {p : Prop} (h : p := by repeat (first | (with_reducible first | exact HB.out | apply below_alloc | apply pw_below_drewN | apply below_drew1 | refine below_set ?_ GE534.out) | exact HB.out)) : p := h
theorem z40_5 {p : Prop} (h : p := by (with_reducible repeat (first | refine blk_drewN ?_ _ | refine blk_drew ?_ | refine blk_alloc ?_ _)); refine blk_put (cs := #[.int .i64 ((rd_T70 l0 x8_1).f0), .int .i64 ((rd_T70 l0 x8_1).f1), .int .i64 0]) ?_ 2 _ rfl; (with_reducible repeat (first | refine blk_drewN ?_ _ | refine blk_drew ?_ | refine blk_alloc ?_ _)); refine blk_put (cs := #[.int .i64 ((rd_T70 l0 x8_1).f0), .int .i64 0, .int .i64 0]) ?_ 1 _ rfl; (with_reducible repeat (first | refine blk_drewN ?_ _ | refine blk_drew ?_ | refine blk_alloc ?_ _)); refine blk_put (cs := #[.int .i64 0, .int .i64 0, .int .i64 0]) ?_ 0 _ rfl; (with_reducible repeat (first | refine blk_drewN ?_ _ | refine blk_drew ?_ | refine blk_alloc ?_ _)); exact BK534.out) : p := h
/-! ### impl_readsOf: function 40 -/
def impl_readsOf.l0 : Nat → Int → List (S70) → Int → Int → Option (Int)
  | 0, _, _, _, _ => none
  | k + 1, x3, x6, x7, x8 => if x8 < x7 then (if 0 ≤ x8 then (if x8 < (x6.length : Int) then ((impl_Do_reads.f ((rd_T70 x6 x8).f0) ((rd_T70 x6 x8).f1) ((rd_T70 x6 x8).f2)).bind fun t535 => (if t535 = true then (impl_readsOf.l0 k (wrap64 (x3 + 1)) x6 x7 (wrap64 (x8 + 1))) else (impl_readsOf.l0 k x3 x6 x7 (wrap64 (x8 + 1))))) else (none)) else (none)) else (some x3)
def impl_readsOf.f (k : Nat) (l0 : List (S70)) : Option (Int) := impl_readsOf.l0 k 0 l0 (l0.length : Int) 0
set_option maxHeartbeats 8000000 in
set_option maxRecDepth 100000 in
theorem impl_readsOf.calls (k : Nat) (A0 : Option Addr) (c0 : Nat) (l0 : List (S70)) (r : Int) (w : World) (hr0 : Kd.C k70 w A0 l0.length l0) (hc0 : l0.length ≤ c0) (h : impl_readsOf.f k l0 = some r) :
  Calls Try.prog 40 #[.slice A0 l0.length c0] w fun e w' => e = .returned (.int .i64 r) ∧ Below w.heap.size w w' := by
 have hu70 := Try.underlying70
 have HR0 := am_ hr0
 have HC0 := am_ hc0
 clear hr0 hc0
 have HB := am_ (Below.refl w.heap.size w)
 have H : (impl_readsOf.l0 k 0 l0 (l0.length : Int) 0) = some r := h
 clear h
 have H' := am_ H
 clear H
 go_enter Try.func40, Try.ntmps40
 go_wp2
 go_loopg [3, 8] k (fun kq v3 v8 w' => ∃ (x3_1 : Int) (x8_1 : Int), v3 = .int .i64 x3_1 ∧ v8 = .int .i64 x8_1 ∧ Aside0 (impl_readsOf.l0 kq x3_1 l0 (l0.length : Int) x8_1 = some r) ∧ Aside0 (kq ≤ k) ∧ Aside0 (Below w.heap.size w w'))
 case atStart => exact ⟨(0), (0), z40_1, z40_1, H', ⟨Nat.le_refl _⟩, ⟨z40_3⟩⟩
 case round =>
  clear H'
  obtain ⟨x3_1, x8_1, rfl, rfl, HA, HK1, HB⟩ := hrel
  cases gk with
  | zero => exact absurd HA.out (by simp [impl_readsOf.l0])
  | succ k1 =>
   have H := HA.out
   clear HA
   simp only [impl_readsOf.l0] at H
   by_cases c2 : x8_1 < (l0.length : Int)
   ·rw [if_pos c2] at H
    have c2b0 : decide (x8_1 < (l0.length : Int)) = true := decide_eq_true c2
    clear c2
    by_cases c3 : 0 ≤ x8_1
    ·rw [if_pos c3] at H
     have c3b0 : decide (0 ≤ x8_1) = true := decide_eq_true c3
     clear c3
     by_cases c4 : x8_1 < (l0.length : Int)
     ·rw [if_pos c4] at H
      have c4b0 : decide (x8_1 < (l0.length : Int)) = true := decide_eq_true c4
      clear c4
      replace H := Option.bind_eq_some_iff.mp H
      obtain ⟨t535, A50, H⟩ := H
      replace H : (if t535 = true then (impl_readsOf.l0 k1 (wrap64 (x3_1 + 1)) l0 (l0.length : Int) (wrap64 (x8_1 + 1))) else (impl_readsOf.l0 k1 x3_1 l0 (l0.length : Int) (wrap64 (x8_1 + 1)))) = some r := H
      have A5 := am_ A50
      clear A50
      by_cases c6 : t535 = true
      ·subst c6
       have H1 : (impl_readsOf.l0 k1 (wrap64 (x3_1 + 1)) l0 (l0.length : Int) (wrap64 (x8_1 + 1))) = some r := by rw [if_pos rfl] at H; exact H
       clear H
       have H := H1
       clear H1
       have H' := am_ H
       clear H
       have p533 : 0 ≤ (x8_1 : Int) := of_decide_eq_true z40_2
       have q533 : x8_1 < (l0.length : Int) := of_decide_eq_true z40_2
       obtain ⟨ad533, e533, hx533_0, hx533_1, hx533_2⟩ := at_T70 HR0.out x8_1 p533 q533
       cases e533
       replace hx533_0 := (HB.out.cell (World.block_lt_of_cell? w _ hx533_0)).trans hx533_0
       replace hx533_1 := (HB.out.cell (World.block_lt_of_cell? w _ hx533_1)).trans hx533_1
       replace hx533_2 := (HB.out.cell (World.block_lt_of_cell? w _ hx533_2)).trans hx533_2
       replace p533 := eq_true p533
       replace q533 := eq_true q533
       go_wp2_with (first | ((with_reducible refine gate_dst (N := 5) rfl ?_); refine box_event ?hg (N := 5) ?hd (cs := #[.int .i64 0, .int .i64 0, .int .i64 0]) (t := 70) ?hr ?_; (case hd => rfl); (case hg => rfl); (case hr => first | (go_simp; done) | (go_simp; rfl)); intro gb534 hg w7 hbox hb; have n0_ := am_ (below_step z40_3 hb); have n1_ := am_ (hbox); have n2_ := am_ (by rw [hg]; exact (below_size z40_3) : w.heap.size ≤ gb534); have n3_ := am_ (by rw [hg]; exact (below_size z40_3) : w.heap.size ≤ gb534); clear HB; have HB := n0_; have BK534 := n1_; have GW534 := n2_; have GE534 := n3_; clear n0_ n1_ n2_ n3_; clear hb hbox hg; have hcz8_0 := cf0 BK534.out; have hcz8_1 := cf1 BK534.out; have hcz8_2 := cf2 BK534.out; have hfz8_0 := blk_frozen BK534.out 0; have hfz8_1 := blk_frozen BK534.out 1; have hfz8_2 := blk_frozen BK534.out 2) | ((with_reducible refine gate_callee (f := 31) rfl ?_); refine goesL_ (some 13) rfl rfl Try.func31 (by kernel_rfl) rfl #[.agg #[.int .i64 ((rd_T70 l0 x8_1).f0), .int .i64 ((rd_T70 l0 x8_1).f1), .int .i64 ((rd_T70 l0 x8_1).f2)]] rfl (by (try simp only [List.map_toArray, List.map_cons, List.map_nil]); first | done | rfl | (simp only [List.length_drop, List.length_take]; rfl)) ?_; (with_reducible refine (impl_Do_reads.calls ((rd_T70 l0 x8_1).f0) ((rd_T70 l0 x8_1).f1) ((rd_T70 l0 x8_1).f2) true _ A5.out).mono ?_); rintro e w9 ⟨rfl, hb⟩; refine ⟨_, rfl, ?_⟩; replace BK534 := am_ (blk_below (g := gb534) (o := .cells #[.int .i64 ((rd_T70 l0 x8_1).f0), .int .i64 ((rd_T70 l0 x8_1).f1), .int .i64 ((rd_T70 l0 x8_1).f2)] 70 (0, 0)) z40_5 hb); replace HB := am_ (below_step z40_4 hb); (try clear hb); (try clear hb2); (try clear hk); (try clear hi)))
       go_roundg k1
       case measure => have := HK1.out; omega
       case rel => exact ⟨(wrap64 (x3_1 + 1)), (wrap64 (x8_1 + 1)), z40_1, z40_1, H', ⟨by have := HK1.out; omega⟩, ⟨z40_4⟩⟩
      replace c6 := Bool.eq_false_iff.mpr c6
      subst c6
      have H1 : (impl_readsOf.l0 k1 x3_1 l0 (l0.length : Int) (wrap64 (x8_1 + 1))) = some r := by rw [if_neg (show ¬ (false = true) by decide)] at H; exact H
      clear H
      have H := H1
      clear H1
      have H' := am_ H
      clear H
      have p533 : 0 ≤ (x8_1 : Int) := of_decide_eq_true z40_2
      have q533 : x8_1 < (l0.length : Int) := of_decide_eq_true z40_2
      obtain ⟨ad533, e533, hx533_0, hx533_1, hx533_2⟩ := at_T70 HR0.out x8_1 p533 q533
      cases e533
      replace hx533_0 := (HB.out.cell (World.block_lt_of_cell? w _ hx533_0)).trans hx533_0
      replace hx533_1 := (HB.out.cell (World.block_lt_of_cell? w _ hx533_1)).trans hx533_1
      replace hx533_2 := (HB.out.cell (World.block_lt_of_cell? w _ hx533_2)).trans hx533_2
      replace p533 := eq_true p533
      replace q533 := eq_true q533
      go_wp2_with (first | ((with_reducible refine gate_dst (N := 5) rfl ?_); refine box_event ?hg (N := 5) ?hd (cs := #[.int .i64 0, .int .i64 0, .int .i64 0]) (t := 70) ?hr ?_; (case hd => rfl); (case hg => rfl); (case hr => first | (go_simp; done) | (go_simp; rfl)); intro gb534 hg w10 hbox hb; have n0_ := am_ (below_step z40_3 hb); have n1_ := am_ (hbox); have n2_ := am_ (by rw [hg]; exact (below_size z40_3) : w.heap.size ≤ gb534); have n3_ := am_ (by rw [hg]; exact (below_size z40_3) : w.heap.size ≤ gb534); clear HB; have HB := n0_; have BK534 := n1_; have GW534 := n2_; have GE534 := n3_; clear n0_ n1_ n2_ n3_; clear hb hbox hg; have hcz11_0 := cf0 BK534.out; have hcz11_1 := cf1 BK534.out; have hcz11_2 := cf2 BK534.out; have hfz11_0 := blk_frozen BK534.out 0; have hfz11_1 := blk_frozen BK534.out 1; have hfz11_2 := blk_frozen BK534.out 2) | ((with_reducible refine gate_callee (f := 31) rfl ?_); refine goesL_ (some 13) rfl rfl Try.func31 (by kernel_rfl) rfl #[.agg #[.int .i64 ((rd_T70 l0 x8_1).f0), .int .i64 ((rd_T70 l0 x8_1).f1), .int .i64 ((rd_T70 l0 x8_1).f2)]] rfl (by (try simp only [List.map_toArray, List.map_cons, List.map_nil]); first | done | rfl | (simp only [List.length_drop, List.length_take]; rfl)) ?_; (with_reducible refine (impl_Do_reads.calls ((rd_T70 l0 x8_1).f0) ((rd_T70 l0 x8_1).f1) ((rd_T70 l0 x8_1).f2) false _ A5.out).mono ?_); rintro e w12 ⟨rfl, hb⟩; refine ⟨_, rfl, ?_⟩; replace BK534 := am_ (blk_below (g := gb534) (o := .cells #[.int .i64 ((rd_T70 l0 x8_1).f0), .int .i64 ((rd_T70 l0 x8_1).f1), .int .i64 ((rd_T70 l0 x8_1).f2)] 70 (0, 0)) z40_5 hb); replace HB := am_ (below_step z40_4 hb); (try clear hb); (try clear hb2); (try clear hk); (try clear hi)))
      go_roundg k1
      case measure => have := HK1.out; omega
      case rel => exact ⟨(x3_1), (wrap64 (x8_1 + 1)), z40_1, z40_1, H', ⟨by have := HK1.out; omega⟩, ⟨z40_4⟩⟩
     rw [if_neg c4] at H
     exact absurd H (by simp)
    rw [if_neg c3] at H
    exact absurd H (by simp)
   rw [if_neg c2] at H
   have c2b0 : decide (x8_1 < (l0.length : Int)) = false := decide_eq_false c2
   clear c2
   obtain rfl := Option.some.inj H
   go_wp2
   go_ret
   exact ⟨by first | rfl | (simp [errW_none, errW_some] <;> rfl) | (simp [*, errW_none, errW_some] <;> rfl), z40_3⟩

end Go.Proofs.Ytmkchdlkpbnldaa.PB

namespace Go.Proofs.Ytmkchdlkpbnldaa.PB
open Go.RowKit Go.Proofs.YtmkchdlkpbnldaaW.PrintWords Go.Proofs.YtmkchdlkpbnldaaW.PrintLast Go.Proofs.YtmkchdlkpbnldaaW.PrintMore
attribute [local go_sem] max2_int min2_int max_two min_two max_three min_three max_four min_four   -- for this text's walks alone
open Go.Proofs.YtmkchdlkpbnldaaMine
set_option linter.unusedVariables false
set_option linter.unusedSimpArgs false

theorem z24_1 {p : Prop} (h : p := by first | rfl | (simp; done) | (simp [*]; done)) : p := h
theorem z24_2 {p : Prop} (h : p := by first | rfl | (simp [errW_none, errW_some] <;> rfl) | (simp [*, errW_none, errW_some] <;> rfl)) : p := h
theorem z24_3 {p : Prop} (h : p := by repeat (first | (with_reducible first | exact HB.out | apply below_alloc | apply pw_below_drewN | apply below_drew1) | exact HB.out)) : p := h
theorem z24_4 {p : Prop} (h : p := by repeat (first | (with_reducible first | exact HB.out | apply below_alloc | apply pw_below_drewN | apply below_drew1 | refine below_set ?_ GE536.out) | exact HB.out)) : p := h
/-! ### impl_ProgReads: function 24 -/
def impl_ProgReads.l0 : Nat → Int → List (List (S70)) → Int → Int → Option (Int)
  | 0, _, _, _, _ => none
  | k + 1, x3, x10, x11, x12 => if x12 < x11 then (if 0 ≤ x12 then (if x12 < (x10.length : Int) then ((impl_readsOf.f k (rd_L7 x10 x12)).bind fun t539 => (impl_ProgReads.l0 k (wrap64 (x3 + t539)) x10 x11 (wrap64 (x12 + 1)))) else (none)) else (none)) else (some x3)
def impl_ProgReads.f (k : Nat) (l0_0 : List (List (S70))) : Option (Int) := (impl_ProgOk.f k l0_0).bind fun t537 => (if t537 = true then (impl_ProgReads.l0 k 0 l0_0 (l0_0.length : Int) 0) else (some (-1)))
set_option maxHeartbeats 8000000 in
set_option maxRecDepth 100000 in
theorem impl_ProgReads.calls (k : Nat) (A0_0 : Option Addr) (c0_0 : Nat) (l0_0 : List (List (S70))) (r : Int) (w : World) (hr0_0 : Kd.C (Kd.slice 70 k70) w A0_0 l0_0.length l0_0) (hc0_0 : l0_0.length ≤ c0_0) (h : impl_ProgReads.f k l0_0 = some r) :
  Calls Try.prog 24 #[.agg #[.slice A0_0 l0_0.length c0_0]] w fun e w' => e = .returned (.int .i64 r) ∧ Below w.heap.size w w' := by
 have hu32 := Try.underlying32
 have HR0_0 := am_ hr0_0
 have HC0_0 := am_ hc0_0
 clear hr0_0 hc0_0
 have HB := am_ (Below.refl w.heap.size w)
 have H : ((impl_ProgOk.f k l0_0).bind fun t537 => (if t537 = true then (impl_ProgReads.l0 k 0 l0_0 (l0_0.length : Int) 0) else (some (-1)))) = some r := h
 clear h
 replace H := Option.bind_eq_some_iff.mp H
 obtain ⟨t537, A20, H⟩ := H
 replace H : (if t537 = true then (impl_ProgReads.l0 k 0 l0_0 (l0_0.length : Int) 0) else (some (-1))) = some r := H
 have A2 := am_ A20
 clear A20
 by_cases c3 : t537 = true
 ·subst c3
  have H1 : (impl_ProgReads.l0 k 0 l0_0 (l0_0.length : Int) 0) = some r := by rw [if_pos rfl] at H; exact H
  clear H
  have H := H1
  clear H1
  have H' := am_ H
  clear H
  go_enter Try.func24, Try.ntmps24
  go_wp2_with (first | ((with_reducible refine gate_dst (N := 1) rfl ?_); refine box_event ?hg (N := 1) ?hd (cs := #[.slice A0_0 l0_0.length c0_0]) (t := 32) ?hr ?_; (case hd => rfl); (case hg => rfl); (case hr => first | (go_simp; done) | (go_simp; rfl)); intro gb536 hg w4 hbox hb; have n0_ := am_ (below_step z24_3 hb); have n1_ := am_ (hbox); have n2_ := am_ (by rw [hg]; exact (below_size z24_3) : w.heap.size ≤ gb536); have n3_ := am_ (by rw [hg]; exact (below_size z24_3) : w.heap.size ≤ gb536); clear HB; have HB := n0_; have BK536 := n1_; have GW536 := n2_; have GE536 := n3_; clear n0_ n1_ n2_ n3_; clear hb hbox hg; have hcz5_0 := cf0 BK536.out; have hfz5_0 := blk_frozen BK536.out 0) | ((with_reducible refine gate_callee (f := 19) rfl ?_); refine goesL_ (some 7) rfl rfl Try.func19 (by kernel_rfl) rfl #[.agg #[.slice A0_0 l0_0.length c0_0]] rfl (by (try simp only [List.map_toArray, List.map_cons, List.map_nil]); first | done | rfl | (simp only [List.length_drop, List.length_take]; rfl)) ?_; (with_reducible refine (impl_ProgOk.calls k _ _ l0_0 true _ ?side1 ?side2 A2.out).mono ?_); (case side1 => repeat (first | exact (Kd.C_below HR0_0.out HB.out) | (with_reducible refine Kd.C_alloc ?_ _) | (with_reducible refine Kd.C_drewN ?_ _) | (with_reducible refine Kd.C_drew ?_))); (case side2 => exact HC0_0.out); rintro e w6 ⟨rfl, hb⟩; refine ⟨_, rfl, ?_⟩; replace BK536 := am_ (blk_below (bu BK536.out) hb); replace HB := am_ (below_step z24_4 hb); (try clear hb); (try clear hb2); (try clear hk); (try clear hi); have hcz7_0 := cf0 BK536.out; have hfz7_0 := blk_frozen BK536.out 0))
  go_loopg [3, 12] k (fun kq v3 v12 w' => ∃ (x3_1 : Int) (x12_1 : Int), v3 = .int .i64 x3_1 ∧ v12 = .int .i64 x12_1 ∧ Aside0 (impl_ProgReads.l0 kq x3_1 l0_0 (l0_0.length : Int) x12_1 = some r) ∧ Aside0 (kq ≤ k) ∧ Aside0 (w'.heap[gb536]? = some (.cells #[(.slice A0_0 l0_0.length c0_0)] 32 (0, 0))) ∧ Aside0 (Below w.heap.size w w'))
  case atStart => exact ⟨(0), (0), z24_1, z24_1, H', ⟨Nat.le_refl _⟩, ⟨bu BK536.out⟩, ⟨z24_4⟩⟩
  case round =>
   clear H'
   obtain ⟨x3_1, x12_1, rfl, rfl, HA, HK1, BK536, HB⟩ := hrel
   cases gk with
   | zero => exact absurd HA.out (by simp [impl_ProgReads.l0])
   | succ k1 =>
    have H := HA.out
    clear HA
    simp only [impl_ProgReads.l0] at H
    by_cases c8 : x12_1 < (l0_0.length : Int)
    ·rw [if_pos c8] at H
     have c8b0 : decide (x12_1 < (l0_0.length : Int)) = true := decide_eq_true c8
     clear c8
     by_cases c9 : 0 ≤ x12_1
     ·rw [if_pos c9] at H
      have c9b0 : decide (0 ≤ x12_1) = true := decide_eq_true c9
      clear c9
      by_cases c10 : x12_1 < (l0_0.length : Int)
      ·rw [if_pos c10] at H
       have c10b0 : decide (x12_1 < (l0_0.length : Int)) = true := decide_eq_true c10
       clear c10
       replace H := Option.bind_eq_some_iff.mp H
       obtain ⟨t539, A110, H⟩ := H
       replace H : (impl_ProgReads.l0 k1 (wrap64 (x3_1 + t539)) l0_0 (l0_0.length : Int) (wrap64 (x12_1 + 1))) = some r := H
       have A11 := am_ A110
       clear A110
       have H' := am_ H
       clear H
       have p538 : 0 ≤ (x12_1 : Int) := of_decide_eq_true (by first | (with_reducible assumption) | assumption)
       have q538 : x12_1 < (l0_0.length : Int) := of_decide_eq_true (by first | (with_reducible assumption) | assumption)
       obtain ⟨ad538, A538_0, c538_0, e538, hx538_0, hl538_0, hi538_0⟩ := at_L7 HR0_0.out x12_1 p538 q538
       cases e538
       replace hx538_0 := (HB.out.cell (World.block_lt_of_cell? w _ hx538_0)).trans hx538_0
       have HR538_0 := am_ hi538_0
       have HC538_0 := am_ hl538_0
       clear hi538_0 hl538_0
       replace p538 := eq_true p538
       replace q538 := eq_true q538
       go_wp2_with (first | ((with_reducible refine gate_callee (f := 40) rfl ?_); refine goesL_ (some 18) rfl rfl Try.func40 (by kernel_rfl) rfl #[.slice A538_0 (rd_L7 l0_0 x12_1).length c538_0] rfl (by (try simp only [List.map_toArray, List.map_cons, List.map_nil]); first | done | rfl | (simp only [List.length_drop, List.length_take]; rfl)) ?_; (with_reducible refine (impl_readsOf.calls k1 _ _ (rd_L7 l0_0 x12_1) t539 _ ?side1 ?side2 A11.out).mono ?_); (case side1 => repeat (first | exact (Kd.C_below HR538_0.out HB.out) | (with_reducible refine Kd.C_alloc ?_ _) | (with_reducible refine Kd.C_drewN ?_ _) | (with_reducible refine Kd.C_drew ?_))); (case side2 => exact HC538_0.out); rintro e w12 ⟨rfl, hb⟩; refine ⟨_, rfl, ?_⟩; replace BK536 := am_ (blk_below (bu BK536.out) hb); replace HB := am_ (below_step z24_4 hb); (try clear hb); (try clear hb2); (try clear hk); (try clear hi)))
       go_roundg k1
       case measure => have := HK1.out; omega
       case rel => exact ⟨(wrap64 (x3_1 + t539)), (wrap64 (x12_1 + 1)), z24_1, z24_1, H', ⟨by have := HK1.out; omega⟩, ⟨bu BK536.out⟩, ⟨z24_4⟩⟩
      rw [if_neg c10] at H
      exact absurd H (by simp)
     rw [if_neg c9] at H
     exact absurd H (by simp)
    rw [if_neg c8] at H
    have c8b0 : decide (x12_1 < (l0_0.length : Int)) = false := decide_eq_false c8
    clear c8
    obtain rfl := Option.some.inj H
    go_wp2
    go_ret
    exact ⟨z24_2, z24_4⟩
 replace c3 := Bool.eq_false_iff.mpr c3
 subst c3
 have H1 : (some (-1)) = some r := by rw [if_neg (show ¬ (false = true) by decide)] at H; exact H
 clear H
 have H := H1
 clear H1
 obtain rfl := Option.some.inj H
 go_enter Try.func24, Try.ntmps24
 go_wp2_with (first | ((with_reducible refine gate_dst (N := 1) rfl ?_); refine box_event ?hg (N := 1) ?hd (cs := #[.slice A0_0 l0_0.length c0_0]) (t := 32) ?hr ?_; (case hd => rfl); (case hg => rfl); (case hr => first | (go_simp; done) | (go_simp; rfl)); intro gb536 hg w13 hbox hb; have n0_ := am_ (below_step z24_3 hb); have n1_ := am_ (hbox); have n2_ := am_ (by rw [hg]; exact (below_size z24_3) : w.heap.size ≤ gb536); have n3_ := am_ (by rw [hg]; exact (below_size z24_3) : w.heap.size ≤ gb536); clear HB; have HB := n0_; have BK536 := n1_; have GW536 := n2_; have GE536 := n3_; clear n0_ n1_ n2_ n3_; clear hb hbox hg; have hcz14_0 := cf0 BK536.out; have hfz14_0 := blk_frozen BK536.out 0) | ((with_reducible refine gate_callee (f := 19) rfl ?_); refine goesL_ (some 7) rfl rfl Try.func19 (by kernel_rfl) rfl #[.agg #[.slice A0_0 l0_0.length c0_0]] rfl (by (try simp only [List.map_toArray, List.map_cons, List.map_nil]); first | done | rfl | (simp only [List.length_drop, List.length_take]; rfl)) ?_; (with_reducible refine (impl_ProgOk.calls k _ _ l0_0 false _ ?side1 ?side2 A2.out).mono ?_); (case side1 => repeat (first | exact (Kd.C_below HR0_0.out HB.out) | (with_reducible refine Kd.C_alloc ?_ _) | (with_reducible refine Kd.C_drewN ?_ _) | (with_reducible refine Kd.C_drew ?_))); (case side2 => exact HC0_0.out); rintro e w15 ⟨rfl, hb⟩; refine ⟨_, rfl, ?_⟩; replace BK536 := am_ (blk_below (bu BK536.out) hb); replace HB := am_ (below_step z24_4 hb); (try clear hb); (try clear hb2); (try clear hk); (try clear hi)))
 go_ret
 exact ⟨z24_2, z24_4⟩

end Go.Proofs.Ytmkchdlkpbnldaa.PB

namespace Go.Proofs.Ytmkchdlkpbnldaa.PB
open Go.RowKit Go.Proofs.YtmkchdlkpbnldaaW.PrintWords Go.Proofs.YtmkchdlkpbnldaaW.PrintLast Go.Proofs.YtmkchdlkpbnldaaW.PrintMore
attribute [local go_sem] max2_int min2_int max_two min_two max_three min_three max_four min_four   -- for this text's walks alone
open Go.Proofs.YtmkchdlkpbnldaaMine
set_option linter.unusedVariables false
set_option linter.unusedSimpArgs false

/-! ### impl_valsOk: function 25 -/
/-- A value. -/
def valB (n : Int) : Bool := decide (0 ≤ n) && decide (n ≤ 3)
theorem valsOk_cl (n : Int) (w : World) :
    Calls Try.prog 42 #[.int .i64 n] w fun e w' => e = .returned (.bool (!valB n)) ∧ Below w.heap.size w w' := by
  have hin : impl_in.f n 0 3 = some (valB n) := by
    unfold impl_in.f valB
    by_cases h : n ≥ 0
    · rw [if_pos h, decide_eq_true (show 0 ≤ n from h), Bool.true_and]
    rw [if_neg h, decide_eq_false (show ¬ 0 ≤ n from h), Bool.false_and]
  go_enter Try.func42, Try.ntmps42
  go_wp2_with (go_at_call 14; refine park ?_)
  refine ⟨?_⟩
  refine (impl_in.calls n 0 3 (valB n) _ hin).mono ?_
  rintro e w1 ⟨rfl, hd⟩
  have hb := hd.below
  go_wp2_with fail
  go_ret
  exact ⟨rfl, hb⟩
set_option maxRecDepth 100000 in
set_option maxHeartbeats 800000 in
theorem valsOk_index (A : Option Addr) (c : Nat) (l : List Int) (w : World) (hr : Kd.C (Kd.int .i64) w A l.length l) (hc : l.length ≤ c) :
    Calls Try.prog 50 #[.slice A l.length c, .func (.func 42) #[] #[]] w fun e w' => ∃ r : Int, e = .returned (.int .i64 r) ∧ decide (0 ≤ r) = !(l.all valB) ∧ Below w.heap.size w w' := by
  have HR := am_ hr
  have hl : l.length ≤ 9223372036854775807 := hr.2.1
  clear hr
  go_enter Try.func50, Try.ntmps50
  go_wp2_with fail
  go_loopg [8] l.length (fun kq v8 w' => ∃ (dn rs : List Int), v8 = .int .i64 dn.length ∧ rs.length = kq ∧ Aside0 (dn ++ rs = l) ∧ Aside0 (dn.all valB = true) ∧ Aside0 (Below w.heap.size w w'))
  case atStart => exact ⟨[], l, rfl, rfl, ⟨rfl⟩, ⟨rfl⟩, ⟨Below.refl _ _⟩⟩
  case round =>
    obtain ⟨dn, rs, rfl, hk, HL, HD, HB⟩ := hrel
    have hle : dn.length + rs.length = l.length := by have := congrArg List.length HL.out; simpa using this
    cases rs with
    | nil =>
      have hge : ¬ (dn.length : Int) < (l.length : Int) := by simp only [List.length_nil] at hle; omega
      go_wp2_with fail
      go_ret
      refine ⟨-1, rfl, ?_, HB.out⟩
      have e := HL.out
      rw [List.append_nil] at e
      rw [← e, HD.out]
      rfl
    | cons d rs1 =>
      have hlt : (dn.length : Int) < (l.length : Int) := by simp only [List.length_cons] at hle; omega
      obtain ⟨ad, rfl, hx⟩ := Kd.at_int (Kd.C_below HR.out HB.out) (dn.length : Int) (by omega) hlt
      have hd : rd l (dn.length : Int) = d := by
        unfold rd
        rw [← HL.out, Int.toNat_natCast]
        simp
      rw [hd, Int.toNat_natCast] at hx
      go_wp2_with (go_at_call 42; refine park ?_)
      clear hx
      refine ⟨?_⟩
      refine (valsOk_cl d _).mono ?_
      rintro e w1 ⟨rfl, hb⟩
      have HB1 := am_ (below_then HB.out HB.out.size hb)
      clear hb
      cases hv : valB d with
      | false =>
        go_wp2_with fail
        go_ret
        refine ⟨(dn.length : Int), rfl, ?_, HB1.out⟩
        rw [← HL.out]
        simp [hv]
      | true =>
        go_wp2_with fail
        go_roundg rs1.length
        case measure => simp only [List.length_cons] at hk; omega
        case rel => exact ⟨dn ++ [d], rs1, by simp, rfl, ⟨by rw [← HL.out]; simp⟩, ⟨by simp [hv]; simpa using HD.out⟩, HB1⟩
def impl_valsOk.f (l0 : List Int) : Option Bool := some (l0.all valB)
set_option maxRecDepth 100000 in
set_option maxHeartbeats 800000 in
theorem impl_valsOk.calls (A0 : Option Addr) (c0 : Nat) (l0 : List Int) (r : Bool) (w : World) (hr0 : Kd.C (Kd.int .i64) w A0 l0.length l0) (hc0 : l0.length ≤ c0) (h : impl_valsOk.f l0 = some r) :
  Calls Try.prog 25 #[.slice A0 l0.length c0] w fun e w' => e = .returned (.bool r) ∧ Below w.heap.size w w' := by
 have h := Option.some.inj h
 have HR := am_ hr0
 clear hr0
 go_enter Try.func25, Try.ntmps25
 go_wp2_with (go_at_call 41; refine park ?_)
 refine ⟨?_⟩
 have key : Calls Try.prog 41 #[.slice A0 l0.length c0, .func (.func 42) #[] #[]] w fun e w' => e = .returned (.bool (!(l0.all valB))) ∧ Below w.heap.size w w' := by
  go_enter Try.func41, Try.ntmps41
  go_wp2_with (go_at_call 50; refine park ?_)
  refine ⟨?_⟩
  refine (valsOk_index A0 c0 l0 w HR.out hc0).mono ?_
  rintro e w1 ⟨r', rfl, hr', hb⟩
  have HB := am_ hb
  clear hb
  go_wp2_with fail
  go_ret
  exact ⟨by rw [h]; rfl, HB.out⟩
 refine key.mono ?_
 rintro e w1 ⟨rfl, hb⟩
 have HB := am_ hb
 clear hb
 go_wp2_with fail
 go_ret
 exact ⟨by rw [← h]; rfl, HB.out⟩


end Go.Proofs.Ytmkchdlkpbnldaa.PB

namespace Go.Proofs.Ytmkchdlkpbnldaa.PB
open Go.RowKit Go.Proofs.YtmkchdlkpbnldaaW.PrintWords Go.Proofs.YtmkchdlkpbnldaaW.PrintLast Go.Proofs.YtmkchdlkpbnldaaW.PrintMore
attribute [local go_sem] max2_int min2_int max_two min_two max_three min_three max_four min_four   -- for this text's walks alone
open Go.Proofs.YtmkchdlkpbnldaaMine
set_option linter.unusedVariables false
set_option linter.unusedSimpArgs false

/-! ### impl_SeenOk: function 11 -/
def impl_SeenOk.T1 : Bool × List (List Nat × List Nat) := (true, [([], []), ([0], [0]), ([1, 1], [1]), ([2], [2]), ([3, 2], [2, 3]), ([4, 2], [2, 4]), ([2], [2]), ([6, 2, 2], [2, 6]), ([5, 7, 2], [2, 5, 7]), ([2, 8], [2, 8]), ([9, 7], [9]), ([10], [10]), ([11, 10], [10, 11]), ([12, 10], [10, 12]), ([13, 10], [10, 13]), ([10, 14], [10, 14]), ([15, 10], [15]), ([16], [16]), ([17, 16], [16, 17]), ([18, 16, 16], [16, 18]), ([16, 19], [16, 19]), ([20, 19], [20]), ([21], [21]), ([22, 21], [21, 22]), ([23, 21, 21], [21, 23]), ([21, 24], [21, 24]), ([25, 24, 0, 1, 2, 3, 4, 5, 6, 7, 8, 9, 10, 11, 12, 13, 14, 15, 16, 17, 18, 19, 20, 21, 22, 23, 24, 25], [25])])
def impl_SeenOk.B1 : List Nat := [0, 1, 3, 7, 15, 31, 7, 71, 255, 511, 1023, 2047, 4095, 8191, 16383, 32767, 65535, 131071, 262143, 524287, 1048575, 2097151, 4194303, 8388607, 16777215, 33554431, 67108863]
theorem impl_SeenOk.tab1 : rtab .any (opsOf Try.f11 1) = impl_SeenOk.T1 := by kernel_rfl
theorem impl_SeenOk.bits1 : waitsOk impl_SeenOk.T1.2 impl_SeenOk.B1 = true := by kernel_rfl
def impl_SeenOk.f (k : Nat) (l0_0 : List (List S70)) (l1_0 : List Int) (l1_1 : List Int) : Option Bool := (impl_ProgOk.f k l0_0).bind fun a => (if a = true then ((impl_ProgReads.f k l0_0).bind fun c => (if (l1_0.length : Int) = c then (if (l1_1.length : Int) = 3 then ((impl_valsOk.f l1_0).bind fun d => (if d = true then ((impl_valsOk.f l1_1).bind fun e => (some e)) else (some false))) else (some false)) else (some false))) else (some false))
theorem impl_SeenOk.ways {k : Nat} {p : List (List S70)} {sr sl : List Int} {r : Bool} (h : impl_SeenOk.f k p sr sl = some r) : ∃ (b0 b1 b2 b3 : Bool) (m : Int), impl_ProgOk.f k p = some b0 ∧ (b0 = true → impl_ProgReads.f k p = some m ∧ b1 = ((sr.length : Int) == m)) ∧ (b0 = false → b1 = false) ∧ (b1 = true → b2 = ((sl.length : Int) == 3)) ∧ (b1 = false → b2 = false) ∧ (b2 = true → impl_valsOk.f sr = some b3) ∧ (b2 = false → b3 = false) ∧ (b3 = true → impl_valsOk.f sl = some r) ∧ (b3 = false → r = false) := by
  unfold impl_SeenOk.f at h
  obtain ⟨a, ea, h⟩ := Option.bind_eq_some_iff.mp h
  cases a with
  | false =>
    rw [if_neg (by simp)] at h
    obtain rfl := Option.some.inj h
    exact ⟨false, false, false, false, 0, ea, by simp, fun _ => rfl, by simp, fun _ => rfl, by simp, fun _ => rfl, by simp, fun _ => rfl⟩
  | true =>
    rw [if_pos rfl] at h
    obtain ⟨c, ec, h⟩ := Option.bind_eq_some_iff.mp h
    by_cases h1 : (sr.length : Int) = c
    rotate_left
    · rw [if_neg h1] at h
      obtain rfl := Option.some.inj h
      exact ⟨true, false, false, false, c, ea, fun _ => ⟨ec, (beq_eq_false_iff_ne.mpr h1).symm⟩, by simp, by simp, fun _ => rfl, by simp, fun _ => rfl, by simp, fun _ => rfl⟩
    rw [if_pos h1] at h
    by_cases h2 : (sl.length : Int) = 3
    rotate_left
    · rw [if_neg h2] at h
      obtain rfl := Option.some.inj h
      exact ⟨true, true, false, false, c, ea, fun _ => ⟨ec, (beq_iff_eq.mpr h1).symm⟩, by simp, fun _ => (beq_eq_false_iff_ne.mpr h2).symm, by simp, by simp, fun _ => rfl, by simp, fun _ => rfl⟩
    rw [if_pos h2] at h
    obtain ⟨d, ed, h⟩ := Option.bind_eq_some_iff.mp h
    cases d with
    | false =>
      rw [if_neg (by simp)] at h
      obtain rfl := Option.some.inj h
      exact ⟨true, true, true, false, c, ea, fun _ => ⟨ec, (beq_iff_eq.mpr h1).symm⟩, by simp, fun _ => (beq_iff_eq.mpr h2).symm, by simp, fun _ => ed, by simp, by simp, fun _ => rfl⟩
    | true =>
      rw [if_pos rfl] at h
      obtain ⟨e, ee, h⟩ := Option.bind_eq_some_iff.mp h
      obtain rfl := Option.some.inj h
      exact ⟨true, true, true, true, c, ea, fun _ => ⟨ec, (beq_iff_eq.mpr h1).symm⟩, by simp, fun _ => (beq_iff_eq.mpr h2).symm, by simp, fun _ => ed, by simp, fun _ => ee, by simp⟩
set_option maxRecDepth 100000 in
set_option maxHeartbeats 8000000 in
theorem impl_SeenOk.calls (k : Nat) (A0_0 : Option Addr) (c0_0 : Nat) (l0_0 : List (List S70)) (A1_0 : Option Addr) (c1_0 : Nat) (l1_0 : List Int) (A1_1 : Option Addr) (c1_1 : Nat) (l1_1 : List Int) (r : Bool) (w : World) (hr0_0 : Kd.C (Kd.slice 70 k70) w A0_0 l0_0.length l0_0) (hc0_0 : l0_0.length ≤ c0_0) (hr1_0 : Kd.C (Kd.int .i64) w A1_0 l1_0.length l1_0) (hc1_0 : l1_0.length ≤ c1_0) (hr1_1 : Kd.C (Kd.int .i64) w A1_1 l1_1.length l1_1) (hc1_1 : l1_1.length ≤ c1_1) (h : impl_SeenOk.f k l0_0 l1_0 l1_1 = some r) :
  Calls Try.prog 11 #[.agg #[.slice A0_0 l0_0.length c0_0], .agg #[.slice A1_0 l1_0.length c1_0, .slice A1_1 l1_1.length c1_1]] w fun e w' => e = .returned (.bool r) ∧ Below w.heap.size w w' := by
 obtain ⟨b0, b1, b2, b3, m, h0, h1, h1', h2, h2', h3, h3', h4, h4'⟩ := impl_SeenOk.ways h
 have C0 := am_ hr0_0
 have L0 := am_ hc0_0
 have C1 := am_ hr1_0
 have L1 := am_ hc1_0
 have C2 := am_ hr1_1
 have L2 := am_ hc1_1
 have G0 := am_ h0
 have G1 := am_ h1
 have G1f := am_ h1'
 have G2 := am_ h2
 have G2f := am_ h2'
 have G3 := am_ h3
 have G3f := am_ h3'
 have G4 := am_ h4
 have G4f := am_ h4'
 clear hr0_0 hc0_0 hr1_0 hc1_0 hr1_1 hc1_1 h0 h1 h1' h2 h2' h3 h3' h4 h4' h
 have hx0 := blk_alloc (heap_alloc_new w (Obj.cells #[Value.slice A0_0 l0_0.length c0_0] 32)) (Obj.cells #[Value.slice A1_0 l1_0.length c1_0, Value.slice A1_1 l1_1.length c1_1] 26)
 have hx1 := heap_alloc_new (w.alloc (Obj.cells #[Value.slice A0_0 l0_0.length c0_0] 32)) (Obj.cells #[Value.slice A1_0 l1_0.length c1_0, Value.slice A1_1 l1_1.length c1_1] 26)
 rw [World.size_alloc] at hx1
 have hB := below_alloc (below_alloc (Below.refl w.heap.size w) (Obj.cells #[Value.slice A0_0 l0_0.length c0_0] 32)) (Obj.cells #[Value.slice A1_0 l1_0.length c1_0, Value.slice A1_1 l1_1.length c1_1] 26)
 have BP := am_ (blk_drew hx0)
 have BS := am_ (blk_drew hx1)
 have HB := am_ (below_drew hB)
 clear hx0 hx1 hB
 go_enter Try.func11, Try.ntmps11
 go_wp2_with fail
 refine start_ (n := 27) (S := fun w' => w'.cell? ⟨w.heap.size, 0, none⟩ = some (.slice A0_0 l0_0.length c0_0) ∧ w'.cell? ⟨w.heap.size + 1, 0, none⟩ = some (.slice A1_0 l1_0.length c1_0) ∧ w'.cell? ⟨w.heap.size + 1, 1, none⟩ = some (.slice A1_1 l1_1.length c1_1)) (ds := []) #[false, false, false, false, false, false, false, false, false, false, false, false, false, false, false, false, false, false, false, false, false, false, false, false, false, false, false] (by kernel_rfl) rfl rfl ⟨(blk_cell BP.out 0).trans rfl, (blk_cell BS.out 0).trans rfl, (blk_cell BS.out 1).trans rfl⟩ (fun hHeld => ?_)
 refine with_tabW impl_SeenOk.tab1 impl_SeenOk.bits1 (fun HT_ HW_ => ?_)
 generalize ((w.alloc (Obj.cells #[Value.slice A0_0 l0_0.length c0_0] 32)).alloc (Obj.cells #[Value.slice A1_0 l1_0.length c1_0, Value.slice A1_1 l1_1.length c1_1] 26)).drew = X0 at *
 refine take_ (i := 0) (N := some 5) (v := ?_) (a' := ?_) #[true, false, false, false, false, false, false, false, false, false, false, false, false, false, false, false, false, false, false, false, false, false, false, false, false, false, false] rfl rfl (take_ofW HT_.out HW_.out (by kernel_rfl)) (fun _ _ _ h => h) (Or.inl ⟨by rfl, ?_⟩) hHeld ?_ ?_
 rotate_left
 ·intro w' s0
  have s1 := s0.1
  go_simp
  with_reducible rfl
 rotate_left
 ·simp only [Act.put, List.setIfInBounds_toArray, List.set_cons_zero, List.set_cons_succ, i64_w, i32_w]
  rfl
 refine one_ (i := 1) (N := some 6) #[true, true, false, false, false, false, false, false, false, false, false, false, false, false, false, false, false, false, false, false, false, false, false, false, false, false, false] rfl rfl (one_of HT_.out (by kernel_rfl)) (by decide) (fun K hK => ?_)
 refine goes_ Try.func19 (by kernel_rfl) rfl #[.agg #[.slice A0_0 l0_0.length c0_0]] (by rfl) rfl rfl (by (try simp only [List.map_toArray, List.map_cons, List.map_nil]); first | done | rfl) ?_
 with_reducible refine (impl_ProgOk.calls k _ _ l0_0 b0 _ (Kd.C_below C0.out HB.out) L0.out G0.out).mono ?_
 rintro e Y0 ⟨rfl, hb⟩
 refine ⟨_, rfl, ?_⟩
 have BPY0 := am_ (blk_below BP.out hb)
 have BSY0 := am_ (blk_below BS.out hb)
 have HBY0 := am_ (below_then HB.out HB.out.size hb)
 clear hb BP BS HB
 refine hK.out _ _ ⟨(blk_cell BPY0.out 0).trans rfl, (blk_cell BSY0.out 0).trans rfl, (blk_cell BSY0.out 1).trans rfl⟩ (fun hHeld => ?_)
 clear hK K
 refine norm_ (a' := ?_) ?_ ?_
 rotate_left
 ·show Act.put _ (some 6) _ = _
  simp only [Act.put, List.setIfInBounds_toArray, List.set_cons_zero, List.set_cons_succ, i64_w, i32_w]
  rfl
 refine pure_ (i := 2) (N := some 7) (v := ?_) (a' := ?_) #[true, true, true, false, false, false, false, false, false, false, false, false, false, false, false, false, false, false, false, false, false, false, false, false, false, false, false] rfl rfl (any_of HT_.out (by kernel_rfl)) (fun _ _ _ h => h) (Or.inl ⟨by rfl, ?_⟩) ?_ ?_
 rotate_left
 ·intro w'
  go_simp
  with_reducible rfl
 rotate_left
 ·simp only [Act.put, List.setIfInBounds_toArray, List.set_cons_zero, List.set_cons_succ, i64_w, i32_w]
  rfl
 refine join_ (σ := Value × Value × Value × Value × Value × Value) 17 #[true, true, true, true, true, true, true, true, true, true, false, false, false, false, false, false, false, false, false, false, false, false, false, false, false, false, false] (fun s_ => [(8, s_.1), (9, s_.2.1), (10, s_.2.2.1), (11, s_.2.2.2.1), (12, s_.2.2.2.2.1), (13, s_.2.2.2.2.2), (14, .bool b1)]) (fun s_ w' => (w'.cell? ⟨w.heap.size, 0, none⟩ = some (.slice A0_0 l0_0.length c0_0) ∧ w'.cell? ⟨w.heap.size + 1, 0, none⟩ = some (.slice A1_0 l1_0.length c1_0) ∧ w'.cell? ⟨w.heap.size + 1, 1, none⟩ = some (.slice A1_1 l1_1.length c1_1)) ∧ w'.heap[w.heap.size]? = some (Obj.cells #[Value.slice A0_0 l0_0.length c0_0] 32) ∧ w'.heap[w.heap.size + 1]? = some (Obj.cells #[Value.slice A1_0 l1_0.length c1_0, Value.slice A1_1 l1_1.length c1_1] 26) ∧ Below w.heap.size w w') ?_ ?_
 rotate_left
 ·intro hCont
  rcases b0 with _ | _
  ·have e2 := G1f.out rfl
   subst e2
   refine pure_ (i := 3) (N := some 8) (v := undef) (a' := ?_) #[true, true, true, true, false, false, false, false, false, false, false, false, false, false, false, false, false, false, false, false, false, false, false, false, false, false, false] rfl rfl (any_of HT_.out (by kernel_rfl)) (fun _ _ _ h => h) (Or.inr ⟨by rfl, rfl⟩) ?_ ?_
   rotate_left
   ·simp only [Act.put, List.setIfInBounds_toArray, List.set_cons_zero, List.set_cons_succ, i64_w, i32_w]
    rfl
   refine pure_ (i := 4) (N := some 9) (v := undef) (a' := ?_) #[true, true, true, true, true, false, false, false, false, false, false, false, false, false, false, false, false, false, false, false, false, false, false, false, false, false, false] rfl rfl (any_of HT_.out (by kernel_rfl)) (fun _ _ _ h => h) (Or.inr ⟨by rfl, rfl⟩) ?_ ?_
   rotate_left
   ·simp only [Act.put, List.setIfInBounds_toArray, List.set_cons_zero, List.set_cons_succ, i64_w, i32_w]
    rfl
   refine pure_ (i := 5) (N := some 10) (v := undef) (a' := ?_) #[true, true, true, true, true, true, false, false, false, false, false, false, false, false, false, false, false, false, false, false, false, false, false, false, false, false, false] rfl rfl (any_of HT_.out (by kernel_rfl)) (fun _ _ _ h => h) (Or.inr ⟨by rfl, rfl⟩) ?_ ?_
   rotate_left
   ·simp only [Act.put, List.setIfInBounds_toArray, List.set_cons_zero, List.set_cons_succ, i64_w, i32_w]
    rfl
   refine pure_ (i := 6) (N := some 11) (v := undef) (a' := ?_) #[true, true, true, true, true, true, true, false, false, false, false, false, false, false, false, false, false, false, false, false, false, false, false, false, false, false, false] rfl rfl (any_of HT_.out (by kernel_rfl)) (fun _ _ _ h => h) (Or.inr ⟨by rfl, rfl⟩) ?_ ?_
   rotate_left
   ·simp only [Act.put, List.setIfInBounds_toArray, List.set_cons_zero, List.set_cons_succ, i64_w, i32_w]
    rfl
   refine pure_ (i := 7) (N := some 12) (v := undef) (a' := ?_) #[true, true, true, true, true, true, true, true, false, false, false, false, false, false, false, false, false, false, false, false, false, false, false, false, false, false, false] rfl rfl (any_of HT_.out (by kernel_rfl)) (fun _ _ _ h => h) (Or.inr ⟨by rfl, rfl⟩) ?_ ?_
   rotate_left
   ·simp only [Act.put, List.setIfInBounds_toArray, List.set_cons_zero, List.set_cons_succ, i64_w, i32_w]
    rfl
   refine pure_ (i := 8) (N := some 13) (v := undef) (a' := ?_) #[true, true, true, true, true, true, true, true, true, false, false, false, false, false, false, false, false, false, false, false, false, false, false, false, false, false, false] rfl rfl (any_of HT_.out (by kernel_rfl)) (fun _ _ _ h => h) (Or.inr ⟨by rfl, rfl⟩) ?_ ?_
   rotate_left
   ·simp only [Act.put, List.setIfInBounds_toArray, List.set_cons_zero, List.set_cons_succ, i64_w, i32_w]
    rfl
   refine pure_ (i := 9) (N := some 14) (v := ?_) (a' := ?_) #[true, true, true, true, true, true, true, true, true, true, false, false, false, false, false, false, false, false, false, false, false, false, false, false, false, false, false] rfl rfl (any_of HT_.out (by kernel_rfl)) (fun _ _ _ h => h) (Or.inl ⟨by rfl, ?_⟩) ?_ ?_
   rotate_left
   ·intro w'
    go_simp
    with_reducible rfl
   rotate_left
   ·simp only [Act.put, List.setIfInBounds_toArray, List.set_cons_zero, List.set_cons_succ, i64_w, i32_w]
    rfl
   have zz := hCont (undef, undef, undef, undef, undef, undef) _ ⟨⟨(blk_cell BPY0.out 0).trans rfl, (blk_cell BSY0.out 0).trans rfl, (blk_cell BSY0.out 1).trans rfl⟩, BPY0.out, BSY0.out, HBY0.out⟩
   simp only [putAll, Act.put, List.setIfInBounds_toArray, List.set_cons_zero, List.set_cons_succ] at zz
   exact zz
  obtain ⟨e1, e2⟩ := G1.out rfl
  subst e2
  have E1 := am_ e1
  clear e1
  refine pure_ (i := 3) (N := some 8) (v := ?_) (a' := ?_) #[true, true, true, true, false, false, false, false, false, false, false, false, false, false, false, false, false, false, false, false, false, false, false, false, false, false, false] rfl rfl (any_of HT_.out (by kernel_rfl)) (fun _ _ _ h => h) (Or.inl ⟨by rfl, ?_⟩) ?_ ?_
  rotate_left
  ·intro w'
   go_simp
   with_reducible rfl
  rotate_left
  ·simp only [Act.put, List.setIfInBounds_toArray, List.set_cons_zero, List.set_cons_succ, i64_w, i32_w]
   rfl
  refine take_ (i := 4) (N := some 9) (v := ?_) (a' := ?_) #[true, true, true, true, true, false, false, false, false, false, false, false, false, false, false, false, false, false, false, false, false, false, false, false, false, false, false] rfl rfl (take_ofW HT_.out HW_.out (by kernel_rfl)) (fun _ _ _ h => h) (Or.inl ⟨by rfl, ?_⟩) hHeld ?_ ?_
  rotate_left
  ·intro w' s0
   have s1 := s0.2.1
   go_simp
   with_reducible rfl
  rotate_left
  ·simp only [Act.put, List.setIfInBounds_toArray, List.set_cons_zero, List.set_cons_succ, i64_w, i32_w]
   rfl
  refine pure_ (i := 5) (N := some 10) (v := ?_) (a' := ?_) #[true, true, true, true, true, true, false, false, false, false, false, false, false, false, false, false, false, false, false, false, false, false, false, false, false, false, false] rfl rfl (any_of HT_.out (by kernel_rfl)) (fun _ _ _ h => h) (Or.inl ⟨by rfl, ?_⟩) ?_ ?_
  rotate_left
  ·intro w'
   go_simp
   with_reducible rfl
  rotate_left
  ·simp only [Act.put, List.setIfInBounds_toArray, List.set_cons_zero, List.set_cons_succ, i64_w, i32_w]
   rfl
  refine take_ (i := 6) (N := some 11) (v := ?_) (a' := ?_) #[true, true, true, true, true, true, true, false, false, false, false, false, false, false, false, false, false, false, false, false, false, false, false, false, false, false, false] rfl rfl (take_ofW HT_.out HW_.out (by kernel_rfl)) (fun _ _ _ h => h) (Or.inl ⟨by rfl, ?_⟩) hHeld ?_ ?_
  rotate_left
  ·intro w' s0
   have s1 := s0.1
   go_simp
   with_reducible rfl
  rotate_left
  ·simp only [Act.put, List.setIfInBounds_toArray, List.set_cons_zero, List.set_cons_succ, i64_w, i32_w]
   rfl
  refine one_ (i := 7) (N := some 12) #[true, true, true, true, true, true, true, true, false, false, false, false, false, false, false, false, false, false, false, false, false, false, false, false, false, false, false] rfl rfl (one_of HT_.out (by kernel_rfl)) (by decide) (fun K hK => ?_)
  refine goes_ Try.func24 (by kernel_rfl) rfl #[.agg #[.slice A0_0 l0_0.length c0_0]] (by rfl) rfl rfl (by (try simp only [List.map_toArray, List.map_cons, List.map_nil]); first | done | rfl) ?_
  with_reducible refine (impl_ProgReads.calls k _ _ l0_0 m _ (Kd.C_below C0.out HBY0.out) L0.out E1.out).mono ?_
  rintro e Y1 ⟨rfl, hb⟩
  refine ⟨_, rfl, ?_⟩
  have BPY1 := am_ (blk_below BPY0.out hb)
  have BSY1 := am_ (blk_below BSY0.out hb)
  have HBY1 := am_ (below_then HBY0.out HBY0.out.size hb)
  clear hb BPY0 BSY0 HBY0
  refine hK.out _ _ ⟨(blk_cell BPY1.out 0).trans rfl, (blk_cell BSY1.out 0).trans rfl, (blk_cell BSY1.out 1).trans rfl⟩ (fun hHeld => ?_)
  clear hK K
  refine norm_ (a' := ?_) ?_ ?_
  rotate_left
  ·show Act.put _ (some 12) _ = _
   simp only [Act.put, List.setIfInBounds_toArray, List.set_cons_zero, List.set_cons_succ, i64_w, i32_w]
   rfl
  refine pure_ (i := 8) (N := some 13) (v := ?_) (a' := ?_) #[true, true, true, true, true, true, true, true, true, false, false, false, false, false, false, false, false, false, false, false, false, false, false, false, false, false, false] rfl rfl (any_of HT_.out (by kernel_rfl)) (fun _ _ _ h => h) (Or.inl ⟨by rfl, ?_⟩) ?_ ?_
  rotate_left
  ·intro w'
   go_simp
   with_reducible rfl
  rotate_left
  ·simp only [Act.put, List.setIfInBounds_toArray, List.set_cons_zero, List.set_cons_succ, i64_w, i32_w]
   rfl
  refine pure_ (i := 9) (N := some 14) (v := ?_) (a' := ?_) #[true, true, true, true, true, true, true, true, true, true, false, false, false, false, false, false, false, false, false, false, false, false, false, false, false, false, false] rfl rfl (any_of HT_.out (by kernel_rfl)) (fun _ _ _ h => h) (Or.inl ⟨by rfl, ?_⟩) ?_ ?_
  rotate_left
  ·intro w'
   go_simp
   with_reducible rfl
  rotate_left
  ·simp only [Act.put, List.setIfInBounds_toArray, List.set_cons_zero, List.set_cons_succ, i64_w, i32_w]
   rfl
  have zz := hCont (.pointer (some ⟨w.heap.size + 1, 0, none⟩), .slice A1_0 l1_0.length c1_0, .int .i64 l1_0.length, .agg #[.slice A0_0 l0_0.length c0_0], .int .i64 m, .bool ((l1_0.length : Int) == m)) _ ⟨⟨(blk_cell BPY1.out 0).trans rfl, (blk_cell BSY1.out 0).trans rfl, (blk_cell BSY1.out 1).trans rfl⟩, BPY1.out, BSY1.out, HBY1.out⟩
  simp only [putAll, Act.put, List.setIfInBounds_toArray, List.set_cons_zero, List.set_cons_succ] at zz
  exact zz
 rintro ⟨z0, z1, z2, z3, z4, z5⟩ Z1 ⟨hHeld, hp, hs, hb⟩
 clear BPY0 BSY0 HBY0
 have BPJ1 := am_ hp
 have BSJ1 := am_ hs
 have HBJ1 := am_ hb
 clear hp hs hb
 refine norm_ (a' := ?_) ?_ ?_
 rotate_left
 ·simp only [putAll, Act.put, List.setIfInBounds_toArray, List.set_cons_zero, List.set_cons_succ, i64_w, i32_w]
  rfl
 refine pure_ (i := 10) (N := some 15) (v := ?_) (a' := ?_) #[true, true, true, true, true, true, true, true, true, true, true, false, false, false, false, false, false, false, false, false, false, false, false, false, false, false, false] rfl rfl (any_of HT_.out (by kernel_rfl)) (fun _ _ _ h => h) (Or.inl ⟨by rfl, ?_⟩) ?_ ?_
 rotate_left
 ·intro w'
  go_simp
  with_reducible rfl
 rotate_left
 ·simp only [Act.put, List.setIfInBounds_toArray, List.set_cons_zero, List.set_cons_succ, i64_w, i32_w]
  rfl
 refine join_ (σ := Value × Value × Value × Value) 11 #[true, true, true, true, true, true, true, true, true, true, true, true, true, true, true, true, false, false, false, false, false, false, false, false, false, false, false] (fun s_ => [(16, s_.1), (17, s_.2.1), (18, s_.2.2.1), (19, s_.2.2.2), (20, .bool b2)]) (fun s_ w' => (w'.cell? ⟨w.heap.size, 0, none⟩ = some (.slice A0_0 l0_0.length c0_0) ∧ w'.cell? ⟨w.heap.size + 1, 0, none⟩ = some (.slice A1_0 l1_0.length c1_0) ∧ w'.cell? ⟨w.heap.size + 1, 1, none⟩ = some (.slice A1_1 l1_1.length c1_1)) ∧ w'.heap[w.heap.size]? = some (Obj.cells #[Value.slice A0_0 l0_0.length c0_0] 32) ∧ w'.heap[w.heap.size + 1]? = some (Obj.cells #[Value.slice A1_0 l1_0.length c1_0, Value.slice A1_1 l1_1.length c1_1] 26) ∧ Below w.heap.size w w') ?_ ?_
 rotate_left
 ·intro hCont
  rcases b1 with _ | _
  ·have e2 := G2f.out rfl
   subst e2
   refine pure_ (i := 11) (N := some 16) (v := undef) (a' := ?_) #[true, true, true, true, true, true, true, true, true, true, true, true, false, false, false, false, false, false, false, false, false, false, false, false, false, false, false] rfl rfl (any_of HT_.out (by kernel_rfl)) (fun _ _ _ h => h) (Or.inr ⟨by rfl, rfl⟩) ?_ ?_
   rotate_left
   ·simp only [Act.put, List.setIfInBounds_toArray, List.set_cons_zero, List.set_cons_succ, i64_w, i32_w]
    rfl
   refine pure_ (i := 12) (N := some 17) (v := undef) (a' := ?_) #[true, true, true, true, true, true, true, true, true, true, true, true, true, false, false, false, false, false, false, false, false, false, false, false, false, false, false] rfl rfl (any_of HT_.out (by kernel_rfl)) (fun _ _ _ h => h) (Or.inr ⟨by rfl, rfl⟩) ?_ ?_
   rotate_left
   ·simp only [Act.put, List.setIfInBounds_toArray, List.set_cons_zero, List.set_cons_succ, i64_w, i32_w]
    rfl
   refine pure_ (i := 13) (N := some 18) (v := undef) (a' := ?_) #[true, true, true, true, true, true, true, true, true, true, true, true, true, true, false, false, false, false, false, false, false, false, false, false, false, false, false] rfl rfl (any_of HT_.out (by kernel_rfl)) (fun _ _ _ h => h) (Or.inr ⟨by rfl, rfl⟩) ?_ ?_
   rotate_left
   ·simp only [Act.put, List.setIfInBounds_toArray, List.set_cons_zero, List.set_cons_succ, i64_w, i32_w]
    rfl
   refine pure_ (i := 14) (N := some 19) (v := undef) (a' := ?_) #[true, true, true, true, true, true, true, true, true, true, true, true, true, true, true, false, false, false, false, false, false, false, false, false, false, false, false] rfl rfl (any_of HT_.out (by kernel_rfl)) (fun _ _ _ h => h) (Or.inr ⟨by rfl, rfl⟩) ?_ ?_
   rotate_left
   ·simp only [Act.put, List.setIfInBounds_toArray, List.set_cons_zero, List.set_cons_succ, i64_w, i32_w]
    rfl
   refine pure_ (i := 15) (N := some 20) (v := ?_) (a' := ?_) #[true, true, true, true, true, true, true, true, true, true, true, true, true, true, true, true, false, false, false, false, false, false, false, false, false, false, false] rfl rfl (any_of HT_.out (by kernel_rfl)) (fun _ _ _ h => h) (Or.inl ⟨by rfl, ?_⟩) ?_ ?_
   rotate_left
   ·intro w'
    go_simp
    with_reducible rfl
   rotate_left
   ·simp only [Act.put, List.setIfInBounds_toArray, List.set_cons_zero, List.set_cons_succ, i64_w, i32_w]
    rfl
   have zz := hCont (undef, undef, undef, undef) _ ⟨⟨(blk_cell BPJ1.out 0).trans rfl, (blk_cell BSJ1.out 0).trans rfl, (blk_cell BSJ1.out 1).trans rfl⟩, BPJ1.out, BSJ1.out, HBJ1.out⟩
   simp only [putAll, Act.put, List.setIfInBounds_toArray, List.set_cons_zero, List.set_cons_succ] at zz
   exact zz
  have e2 := G2.out rfl
  subst e2
  refine pure_ (i := 11) (N := some 16) (v := ?_) (a' := ?_) #[true, true, true, true, true, true, true, true, true, true, true, true, false, false, false, false, false, false, false, false, false, false, false, false, false, false, false] rfl rfl (any_of HT_.out (by kernel_rfl)) (fun _ _ _ h => h) (Or.inl ⟨by rfl, ?_⟩) ?_ ?_
  rotate_left
  ·intro w'
   go_simp
   with_reducible rfl
  rotate_left
  ·simp only [Act.put, List.setIfInBounds_toArray, List.set_cons_zero, List.set_cons_succ, i64_w, i32_w]
   rfl
  refine take_ (i := 12) (N := some 17) (v := ?_) (a' := ?_) #[true, true, true, true, true, true, true, true, true, true, true, true, true, false, false, false, false, false, false, false, false, false, false, false, false, false, false] rfl rfl (take_ofW HT_.out HW_.out (by kernel_rfl)) (fun _ _ _ h => h) (Or.inl ⟨by rfl, ?_⟩) hHeld ?_ ?_
  rotate_left
  ·intro w' s0
   have s1 := s0.2.2
   go_simp
   with_reducible rfl
  rotate_left
  ·simp only [Act.put, List.setIfInBounds_toArray, List.set_cons_zero, List.set_cons_succ, i64_w, i32_w]
   rfl
  refine pure_ (i := 13) (N := some 18) (v := ?_) (a' := ?_) #[true, true, true, true, true, true, true, true, true, true, true, true, true, true, false, false, false, false, false, false, false, false, false, false, false, false, false] rfl rfl (any_of HT_.out (by kernel_rfl)) (fun _ _ _ h => h) (Or.inl ⟨by rfl, ?_⟩) ?_ ?_
  rotate_left
  ·intro w'
   go_simp
   with_reducible rfl
  rotate_left
  ·simp only [Act.put, List.setIfInBounds_toArray, List.set_cons_zero, List.set_cons_succ, i64_w, i32_w]
   rfl
  refine pure_ (i := 14) (N := some 19) (v := ?_) (a' := ?_) #[true, true, true, true, true, true, true, true, true, true, true, true, true, true, true, false, false, false, false, false, false, false, false, false, false, false, false] rfl rfl (any_of HT_.out (by kernel_rfl)) (fun _ _ _ h => h) (Or.inl ⟨by rfl, ?_⟩) ?_ ?_
  rotate_left
  ·intro w'
   go_simp
   with_reducible rfl
  rotate_left
  ·simp only [Act.put, List.setIfInBounds_toArray, List.set_cons_zero, List.set_cons_succ, i64_w, i32_w]
   rfl
  refine pure_ (i := 15) (N := some 20) (v := ?_) (a' := ?_) #[true, true, true, true, true, true, true, true, true, true, true, true, true, true, true, true, false, false, false, false, false, false, false, false, false, false, false] rfl rfl (any_of HT_.out (by kernel_rfl)) (fun _ _ _ h => h) (Or.inl ⟨by rfl, ?_⟩) ?_ ?_
  rotate_left
  ·intro w'
   go_simp
   with_reducible rfl
  rotate_left
  ·simp only [Act.put, List.setIfInBounds_toArray, List.set_cons_zero, List.set_cons_succ, i64_w, i32_w]
   rfl
  have zz := hCont (.pointer (some ⟨w.heap.size + 1, 1, none⟩), .slice A1_1 l1_1.length c1_1, .int .i64 l1_1.length, .bool ((l1_1.length : Int) == 3)) _ ⟨⟨(blk_cell BPJ1.out 0).trans rfl, (blk_cell BSJ1.out 0).trans rfl, (blk_cell BSJ1.out 1).trans rfl⟩, BPJ1.out, BSJ1.out, HBJ1.out⟩
  simp only [putAll, Act.put, List.setIfInBounds_toArray, List.set_cons_zero, List.set_cons_succ] at zz
  exact zz
 rintro ⟨z0, z1, z2, z3⟩ Z2 ⟨hHeld, hp, hs, hb⟩
 clear BPJ1 BSJ1 HBJ1
 have BPJ2 := am_ hp
 have BSJ2 := am_ hs
 have HBJ2 := am_ hb
 clear hp hs hb
 refine norm_ (a' := ?_) ?_ ?_
 rotate_left
 ·simp only [putAll, Act.put, List.setIfInBounds_toArray, List.set_cons_zero, List.set_cons_succ, i64_w, i32_w]
  rfl
 refine pure_ (i := 16) (N := some 21) (v := ?_) (a' := ?_) #[true, true, true, true, true, true, true, true, true, true, true, true, true, true, true, true, true, false, false, false, false, false, false, false, false, false, false] rfl rfl (any_of HT_.out (by kernel_rfl)) (fun _ _ _ h => h) (Or.inl ⟨by rfl, ?_⟩) ?_ ?_
 rotate_left
 ·intro w'
  go_simp
  with_reducible rfl
 rotate_left
 ·simp only [Act.put, List.setIfInBounds_toArray, List.set_cons_zero, List.set_cons_succ, i64_w, i32_w]
  rfl
 refine join_ (σ := Value × Value × Value) 6 #[true, true, true, true, true, true, true, true, true, true, true, true, true, true, true, true, true, true, true, true, true, false, false, false, false, false, false] (fun s_ => [(22, s_.1), (23, s_.2.1), (24, s_.2.2), (25, .bool b3)]) (fun s_ w' => (w'.cell? ⟨w.heap.size, 0, none⟩ = some (.slice A0_0 l0_0.length c0_0) ∧ w'.cell? ⟨w.heap.size + 1, 0, none⟩ = some (.slice A1_0 l1_0.length c1_0) ∧ w'.cell? ⟨w.heap.size + 1, 1, none⟩ = some (.slice A1_1 l1_1.length c1_1)) ∧ w'.heap[w.heap.size]? = some (Obj.cells #[Value.slice A0_0 l0_0.length c0_0] 32) ∧ w'.heap[w.heap.size + 1]? = some (Obj.cells #[Value.slice A1_0 l1_0.length c1_0, Value.slice A1_1 l1_1.length c1_1] 26) ∧ Below w.heap.size w w') ?_ ?_
 rotate_left
 ·intro hCont
  rcases b2 with _ | _
  ·have e2 := G3f.out rfl
   subst e2
   refine pure_ (i := 17) (N := some 22) (v := undef) (a' := ?_) #[true, true, true, true, true, true, true, true, true, true, true, true, true, true, true, true, true, true, false, false, false, false, false, false, false, false, false] rfl rfl (any_of HT_.out (by kernel_rfl)) (fun _ _ _ h => h) (Or.inr ⟨by rfl, rfl⟩) ?_ ?_
   rotate_left
   ·simp only [Act.put, List.setIfInBounds_toArray, List.set_cons_zero, List.set_cons_succ, i64_w, i32_w]
    rfl
   refine pure_ (i := 18) (N := some 23) (v := undef) (a' := ?_) #[true, true, true, true, true, true, true, true, true, true, true, true, true, true, true, true, true, true, true, false, false, false, false, false, false, false, false] rfl rfl (any_of HT_.out (by kernel_rfl)) (fun _ _ _ h => h) (Or.inr ⟨by rfl, rfl⟩) ?_ ?_
   rotate_left
   ·simp only [Act.put, List.setIfInBounds_toArray, List.set_cons_zero, List.set_cons_succ, i64_w, i32_w]
    rfl
   refine pure_ (i := 19) (N := some 24) (v := undef) (a' := ?_) #[true, true, true, true, true, true, true, true, true, true, true, true, true, true, true, true, true, true, true, true, false, false, false, false, false, false, false] rfl rfl (any_of HT_.out (by kernel_rfl)) (fun _ _ _ h => h) (Or.inr ⟨by rfl, rfl⟩) ?_ ?_
   rotate_left
   ·simp only [Act.put, List.setIfInBounds_toArray, List.set_cons_zero, List.set_cons_succ, i64_w, i32_w]
    rfl
   refine pure_ (i := 20) (N := some 25) (v := ?_) (a' := ?_) #[true, true, true, true, true, true, true, true, true, true, true, true, true, true, true, true, true, true, true, true, true, false, false, false, false, false, false] rfl rfl (any_of HT_.out (by kernel_rfl)) (fun _ _ _ h => h) (Or.inl ⟨by rfl, ?_⟩) ?_ ?_
   rotate_left
   ·intro w'
    go_simp
    with_reducible rfl
   rotate_left
   ·simp only [Act.put, List.setIfInBounds_toArray, List.set_cons_zero, List.set_cons_succ, i64_w, i32_w]
    rfl
   have zz := hCont (undef, undef, undef) _ ⟨⟨(blk_cell BPJ2.out 0).trans rfl, (blk_cell BSJ2.out 0).trans rfl, (blk_cell BSJ2.out 1).trans rfl⟩, BPJ2.out, BSJ2.out, HBJ2.out⟩
   simp only [putAll, Act.put, List.setIfInBounds_toArray, List.set_cons_zero, List.set_cons_succ] at zz
   exact zz
  have E1 := am_ (G3.out rfl)
  refine pure_ (i := 17) (N := some 22) (v := ?_) (a' := ?_) #[true, true, true, true, true, true, true, true, true, true, true, true, true, true, true, true, true, true, false, false, false, false, false, false, false, false, false] rfl rfl (any_of HT_.out (by kernel_rfl)) (fun _ _ _ h => h) (Or.inl ⟨by rfl, ?_⟩) ?_ ?_
  rotate_left
  ·intro w'
   go_simp
   with_reducible rfl
  rotate_left
  ·simp only [Act.put, List.setIfInBounds_toArray, List.set_cons_zero, List.set_cons_succ, i64_w, i32_w]
   rfl
  refine take_ (i := 18) (N := some 23) (v := ?_) (a' := ?_) #[true, true, true, true, true, true, true, true, true, true, true, true, true, true, true, true, true, true, true, false, false, false, false, false, false, false, false] rfl rfl (take_ofW HT_.out HW_.out (by kernel_rfl)) (fun _ _ _ h => h) (Or.inl ⟨by rfl, ?_⟩) hHeld ?_ ?_
  rotate_left
  ·intro w' s0
   have s1 := s0.2.1
   go_simp
   with_reducible rfl
  rotate_left
  ·simp only [Act.put, List.setIfInBounds_toArray, List.set_cons_zero, List.set_cons_succ, i64_w, i32_w]
   rfl
  refine one_ (i := 19) (N := some 24) #[true, true, true, true, true, true, true, true, true, true, true, true, true, true, true, true, true, true, true, true, false, false, false, false, false, false, false] rfl rfl (one_of HT_.out (by kernel_rfl)) (by decide) (fun K hK => ?_)
  refine goes_ Try.func25 (by kernel_rfl) rfl #[.slice A1_0 l1_0.length c1_0] (by rfl) rfl rfl (by (try simp only [List.map_toArray, List.map_cons, List.map_nil]); first | done | rfl) ?_
  with_reducible refine (impl_valsOk.calls _ _ l1_0 b3 _ (Kd.C_below C1.out HBJ2.out) L1.out E1.out).mono ?_
  rintro e Y3 ⟨rfl, hb⟩
  refine ⟨_, rfl, ?_⟩
  have BPY3 := am_ (blk_below BPJ2.out hb)
  have BSY3 := am_ (blk_below BSJ2.out hb)
  have HBY3 := am_ (below_then HBJ2.out HBJ2.out.size hb)
  clear hb BPJ2 BSJ2 HBJ2
  refine hK.out _ _ ⟨(blk_cell BPY3.out 0).trans rfl, (blk_cell BSY3.out 0).trans rfl, (blk_cell BSY3.out 1).trans rfl⟩ (fun hHeld => ?_)
  clear hK K
  refine norm_ (a' := ?_) ?_ ?_
  rotate_left
  ·show Act.put _ (some 24) _ = _
   simp only [Act.put, List.setIfInBounds_toArray, List.set_cons_zero, List.set_cons_succ, i64_w, i32_w]
   rfl
  refine pure_ (i := 20) (N := some 25) (v := ?_) (a' := ?_) #[true, true, true, true, true, true, true, true, true, true, true, true, true, true, true, true, true, true, true, true, true, false, false, false, false, false, false] rfl rfl (any_of HT_.out (by kernel_rfl)) (fun _ _ _ h => h) (Or.inl ⟨by rfl, ?_⟩) ?_ ?_
  rotate_left
  ·intro w'
   go_simp
   with_reducible rfl
  rotate_left
  ·simp only [Act.put, List.setIfInBounds_toArray, List.set_cons_zero, List.set_cons_succ, i64_w, i32_w]
   rfl
  have zz := hCont (.pointer (some ⟨w.heap.size + 1, 0, none⟩), .slice A1_0 l1_0.length c1_0, .bool b3) _ ⟨⟨(blk_cell BPY3.out 0).trans rfl, (blk_cell BSY3.out 0).trans rfl, (blk_cell BSY3.out 1).trans rfl⟩, BPY3.out, BSY3.out, HBY3.out⟩
  simp only [putAll, Act.put, List.setIfInBounds_toArray, List.set_cons_zero, List.set_cons_succ] at zz
  exact zz
 rintro ⟨z0, z1, z2⟩ Z3 ⟨hHeld, hp, hs, hb⟩
 clear BPJ2 BSJ2 HBJ2
 have BPJ3 := am_ hp
 have BSJ3 := am_ hs
 have HBJ3 := am_ hb
 clear hp hs hb
 refine norm_ (a' := ?_) ?_ ?_
 rotate_left
 ·simp only [putAll, Act.put, List.setIfInBounds_toArray, List.set_cons_zero, List.set_cons_succ, i64_w, i32_w]
  rfl
 refine pure_ (i := 21) (N := some 26) (v := ?_) (a' := ?_) #[true, true, true, true, true, true, true, true, true, true, true, true, true, true, true, true, true, true, true, true, true, true, false, false, false, false, false] rfl rfl (any_of HT_.out (by kernel_rfl)) (fun _ _ _ h => h) (Or.inl ⟨by rfl, ?_⟩) ?_ ?_
 rotate_left
 ·intro w'
  go_simp
  with_reducible rfl
 rotate_left
 ·simp only [Act.put, List.setIfInBounds_toArray, List.set_cons_zero, List.set_cons_succ, i64_w, i32_w]
  rfl
 refine join_ (σ := Value × Value × Value) 1 #[true, true, true, true, true, true, true, true, true, true, true, true, true, true, true, true, true, true, true, true, true, true, true, true, true, true, false] (fun s_ => [(27, s_.1), (28, s_.2.1), (29, s_.2.2), (30, .bool r)]) (fun s_ w' => (w'.cell? ⟨w.heap.size, 0, none⟩ = some (.slice A0_0 l0_0.length c0_0) ∧ w'.cell? ⟨w.heap.size + 1, 0, none⟩ = some (.slice A1_0 l1_0.length c1_0) ∧ w'.cell? ⟨w.heap.size + 1, 1, none⟩ = some (.slice A1_1 l1_1.length c1_1)) ∧ w'.heap[w.heap.size]? = some (Obj.cells #[Value.slice A0_0 l0_0.length c0_0] 32) ∧ w'.heap[w.heap.size + 1]? = some (Obj.cells #[Value.slice A1_0 l1_0.length c1_0, Value.slice A1_1 l1_1.length c1_1] 26) ∧ Below w.heap.size w w') ?_ ?_
 rotate_left
 ·intro hCont
  rcases b3 with _ | _
  ·have e2 := G4f.out rfl
   subst e2
   refine pure_ (i := 22) (N := some 27) (v := undef) (a' := ?_) #[true, true, true, true, true, true, true, true, true, true, true, true, true, true, true, true, true, true, true, true, true, true, true, false, false, false, false] rfl rfl (any_of HT_.out (by kernel_rfl)) (fun _ _ _ h => h) (Or.inr ⟨by rfl, rfl⟩) ?_ ?_
   rotate_left
   ·simp only [Act.put, List.setIfInBounds_toArray, List.set_cons_zero, List.set_cons_succ, i64_w, i32_w]
    rfl
   refine pure_ (i := 23) (N := some 28) (v := undef) (a' := ?_) #[true, true, true, true, true, true, true, true, true, true, true, true, true, true, true, true, true, true, true, true, true, true, true, true, false, false, false] rfl rfl (any_of HT_.out (by kernel_rfl)) (fun _ _ _ h => h) (Or.inr ⟨by rfl, rfl⟩) ?_ ?_
   rotate_left
   ·simp only [Act.put, List.setIfInBounds_toArray, List.set_cons_zero, List.set_cons_succ, i64_w, i32_w]
    rfl
   refine pure_ (i := 24) (N := some 29) (v := undef) (a' := ?_) #[true, true, true, true, true, true, true, true, true, true, true, true, true, true, true, true, true, true, true, true, true, true, true, true, true, false, false] rfl rfl (any_of HT_.out (by kernel_rfl)) (fun _ _ _ h => h) (Or.inr ⟨by rfl, rfl⟩) ?_ ?_
   rotate_left
   ·simp only [Act.put, List.setIfInBounds_toArray, List.set_cons_zero, List.set_cons_succ, i64_w, i32_w]
    rfl
   refine pure_ (i := 25) (N := some 30) (v := ?_) (a' := ?_) #[true, true, true, true, true, true, true, true, true, true, true, true, true, true, true, true, true, true, true, true, true, true, true, true, true, true, false] rfl rfl (any_of HT_.out (by kernel_rfl)) (fun _ _ _ h => h) (Or.inl ⟨by rfl, ?_⟩) ?_ ?_
   rotate_left
   ·intro w'
    go_simp
    with_reducible rfl
   rotate_left
   ·simp only [Act.put, List.setIfInBounds_toArray, List.set_cons_zero, List.set_cons_succ, i64_w, i32_w]
    rfl
   have zz := hCont (undef, undef, undef) _ ⟨⟨(blk_cell BPJ3.out 0).trans rfl, (blk_cell BSJ3.out 0).trans rfl, (blk_cell BSJ3.out 1).trans rfl⟩, BPJ3.out, BSJ3.out, HBJ3.out⟩
   simp only [putAll, Act.put, List.setIfInBounds_toArray, List.set_cons_zero, List.set_cons_succ] at zz
   exact zz
  have E1 := am_ (G4.out rfl)
  refine pure_ (i := 22) (N := some 27) (v := ?_) (a' := ?_) #[true, true, true, true, true, true, true, true, true, true, true, true, true, true, true, true, true, true, true, true, true, true, true, false, false, false, false] rfl rfl (any_of HT_.out (by kernel_rfl)) (fun _ _ _ h => h) (Or.inl ⟨by rfl, ?_⟩) ?_ ?_
  rotate_left
  ·intro w'
   go_simp
   with_reducible rfl
  rotate_left
  ·simp only [Act.put, List.setIfInBounds_toArray, List.set_cons_zero, List.set_cons_succ, i64_w, i32_w]
   rfl
  refine take_ (i := 23) (N := some 28) (v := ?_) (a' := ?_) #[true, true, true, true, true, true, true, true, true, true, true, true, true, true, true, true, true, true, true, true, true, true, true, true, false, false, false] rfl rfl (take_ofW HT_.out HW_.out (by kernel_rfl)) (fun _ _ _ h => h) (Or.inl ⟨by rfl, ?_⟩) hHeld ?_ ?_
  rotate_left
  ·intro w' s0
   have s1 := s0.2.2
   go_simp
   with_reducible rfl
  rotate_left
  ·simp only [Act.put, List.setIfInBounds_toArray, List.set_cons_zero, List.set_cons_succ, i64_w, i32_w]
   rfl
  refine one_ (i := 24) (N := some 29) #[true, true, true, true, true, true, true, true, true, true, true, true, true, true, true, true, true, true, true, true, true, true, true, true, true, false, false] rfl rfl (one_of HT_.out (by kernel_rfl)) (by decide) (fun K hK => ?_)
  refine goes_ Try.func25 (by kernel_rfl) rfl #[.slice A1_1 l1_1.length c1_1] (by rfl) rfl rfl (by (try simp only [List.map_toArray, List.map_cons, List.map_nil]); first | done | rfl) ?_
  with_reducible refine (impl_valsOk.calls _ _ l1_1 r _ (Kd.C_below C2.out HBJ3.out) L2.out E1.out).mono ?_
  rintro e Y4 ⟨rfl, hb⟩
  refine ⟨_, rfl, ?_⟩
  have BPY4 := am_ (blk_below BPJ3.out hb)
  have BSY4 := am_ (blk_below BSJ3.out hb)
  have HBY4 := am_ (below_then HBJ3.out HBJ3.out.size hb)
  clear hb BPJ3 BSJ3 HBJ3
  refine hK.out _ _ ⟨(blk_cell BPY4.out 0).trans rfl, (blk_cell BSY4.out 0).trans rfl, (blk_cell BSY4.out 1).trans rfl⟩ (fun hHeld => ?_)
  clear hK K
  refine norm_ (a' := ?_) ?_ ?_
  rotate_left
  ·show Act.put _ (some 29) _ = _
   simp only [Act.put, List.setIfInBounds_toArray, List.set_cons_zero, List.set_cons_succ, i64_w, i32_w]
   rfl
  refine pure_ (i := 25) (N := some 30) (v := ?_) (a' := ?_) #[true, true, true, true, true, true, true, true, true, true, true, true, true, true, true, true, true, true, true, true, true, true, true, true, true, true, false] rfl rfl (any_of HT_.out (by kernel_rfl)) (fun _ _ _ h => h) (Or.inl ⟨by rfl, ?_⟩) ?_ ?_
  rotate_left
  ·intro w'
   go_simp
   with_reducible rfl
  rotate_left
  ·simp only [Act.put, List.setIfInBounds_toArray, List.set_cons_zero, List.set_cons_succ, i64_w, i32_w]
   rfl
  have zz := hCont (.pointer (some ⟨w.heap.size + 1, 1, none⟩), .slice A1_1 l1_1.length c1_1, .bool r) _ ⟨⟨(blk_cell BPY4.out 0).trans rfl, (blk_cell BSY4.out 0).trans rfl, (blk_cell BSY4.out 1).trans rfl⟩, BPY4.out, BSY4.out, HBY4.out⟩
  simp only [putAll, Act.put, List.setIfInBounds_toArray, List.set_cons_zero, List.set_cons_succ] at zz
  exact zz
 rintro ⟨z0, z1, z2⟩ Z4 ⟨hHeld, hp, hs, hb⟩
 clear BPJ3 BSJ3 HBJ3
 have BPJ4 := am_ hp
 have BSJ4 := am_ hs
 have HBJ4 := am_ hb
 clear hp hs hb
 refine norm_ (a' := ?_) ?_ ?_
 rotate_left
 ·simp only [putAll, Act.put, List.setIfInBounds_toArray, List.set_cons_zero, List.set_cons_succ, i64_w, i32_w]
  rfl
 refine pure_ (i := 26) (N := some 4) (v := ?_) (a' := ?_) #[true, true, true, true, true, true, true, true, true, true, true, true, true, true, true, true, true, true, true, true, true, true, true, true, true, true, true] rfl rfl (any_of HT_.out (by kernel_rfl)) (fun _ _ _ h => h) (Or.inl ⟨by rfl, ?_⟩) ?_ ?_
 rotate_left
 ·intro w'
  go_simp
  with_reducible rfl
 rotate_left
 ·simp only [Act.put, List.setIfInBounds_toArray, List.set_cons_zero, List.set_cons_succ, i64_w, i32_w]
  rfl
 refine done_ (done_of HT_.out (by kernel_rfl)) ?_
 clear HT_ HW_ hHeld
 go_wp2_with fail
 refine bodyPost_ret (results_tmp rfl _ _ _) rfl ?_
 exact ⟨rfl, HBJ4.out⟩


end Go.Proofs.Ytmkchdlkpbnldaa.PB

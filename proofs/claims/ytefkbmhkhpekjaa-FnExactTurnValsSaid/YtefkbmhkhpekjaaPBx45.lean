-- Written by this session's wip/myprint.py (the kit's print.py, with hand-written chunks). Lean checks it.
import Derived.Test.YtefkbmhkhpekjaaPBx0
import Derived.Test.YtefkbmhkhpekjaaPBx95
namespace Go.Proofs.Ytefkbmhkhpekjaa.PB
open Go.RowKit Go.Proofs.YtefkbmhkhpekjaaW.PrintWords Go.Proofs.YtefkbmhkhpekjaaW.PrintLast Go.Proofs.YtefkbmhkhpekjaaW.PrintMore
attribute [local go_sem] max2_int min2_int max_two min_two max_three min_three max_four min_four   -- for this text's walks alone
open Go.Proofs.YtefkbmhkhpekjaaMine
set_option linter.unusedVariables false
set_option linter.unusedSimpArgs false

theorem z45_1 {p : Prop} (h : p := by repeat (first | (with_reducible first | exact HB.out | apply below_alloc | apply pw_below_drewN | apply below_drew1) | exact HB.out)) : p := h
theorem z45_2 {p : Prop} (h : p := by repeat (first | (with_reducible first | exact HB.out | apply below_alloc | apply pw_below_drewN | apply below_drew1 | refine below_set ?_ GE921.out) | exact HB.out)) : p := h
theorem z45_3 {p : Prop} (h : p := by repeat (first | (with_reducible first | exact HB.out | apply below_alloc | apply pw_below_drewN | apply below_drew1 | refine below_set ?_ GE921.out | refine below_set ?_ GE922.out) | exact HB.out)) : p := h
theorem z45_4 {p : Prop} (h : p := by repeat (first | (with_reducible first | exact HB.out | apply below_alloc | apply pw_below_drewN | apply below_drew1 | refine below_set ?_ GE921.out | refine below_set ?_ GE922.out | refine below_set ?_ GE923.out) | exact HB.out)) : p := h
/-! ### laws_toProg: function 45 -/
def laws_toProg.f (k : Nat) (l0_0 : List (List (S130))) : Option ((List (List (S85)))) := (laws_toDoSS.f k l0_0).bind fun t924 => (some t924)
theorem laws_toProg.mono : ∀ a0 k, LeO (laws_toProg.f k a0) (laws_toProg.f (k + 1) a0) := by
  intro a0 k
  unfold laws_toProg.f
  repeat' first
      | (with_reducible exact laws_toDoSS.mono _ _)
      | (with_reducible exact LeO.refl _)
      | (with_reducible exact LeO.none _)
      | (with_reducible refine LeO.ite ?_ ?_)
      | (with_reducible refine LeO.bind ?_ (fun _ => ?_))
      | exact laws_toDoSS.mono _ _
      | exact LeO.none _
      | refine LeO.ite ?_ ?_
      | refine LeO.bind ?_ (fun _ => ?_)
set_option maxHeartbeats 8000000 in
set_option maxRecDepth 100000 in
theorem laws_toProg.calls (k : Nat) (A0_0 : Option Addr) (c0_0 : Nat) (l0_0 : List (List (S130))) (r : List (List (S85))) (w : World) (hr0_0 : Kd.C (Kd.slice 130 k130) w A0_0 l0_0.length l0_0) (hc0_0 : l0_0.length ≤ c0_0) (h : laws_toProg.f k l0_0 = some r) :
  Calls Try.prog 45 #[.agg #[.slice A0_0 l0_0.length c0_0]] w fun e w' => ∃ v0_ : Value, e = .returned (.agg #[v0_]) ∧ Kd.S (Kd.slice 85 k85) 82 w' w.heap.size (fun _ => True) v0_ r ∧ Below w.heap.size w w' := by
 have hu52 := Try.underlying52
 have hu35 := Try.underlying35
 have HR0_0 := am_ hr0_0
 have HC0_0 := am_ hc0_0
 clear hr0_0 hc0_0
 have HB := am_ (Below.refl w.heap.size w)
 have H : ((laws_toDoSS.f k l0_0).bind fun t924 => (some t924)) = some r := h
 clear h
 replace H := Option.bind_eq_some_iff.mp H
 obtain ⟨t924, A20, H⟩ := H
 replace H : (some t924) = some r := H
 have A2 := am_ A20
 clear A20
 obtain rfl := Option.some.inj H
 go_enter Try.func45, Try.ntmps45
 go_wp2_with (first | ((with_reducible refine gate_dst (N := 1) rfl ?_); refine box_event ?hg (N := 1) ?hd (cs := #[.slice A0_0 l0_0.length c0_0]) (t := 52) ?hr ?_; (case hd => rfl); (case hg => rfl); (case hr => first | (go_simp; done) | (go_simp; rfl)); intro gb921 hg w3 hbox hb; have n0_ := am_ (below_step z45_1 hb); have n1_ := am_ (hbox); have n2_ := am_ (by rw [hg]; exact (below_size z45_1) : w.heap.size ≤ gb921); have n3_ := am_ (by rw [hg]; exact (below_size z45_1) : w.heap.size ≤ gb921); clear HB; have HB := n0_; have BK921 := n1_; have GW921 := n2_; have GE921 := n3_; clear n0_ n1_ n2_ n3_; clear hb hbox hg) | ((with_reducible refine gate_dst (N := 2) rfl ?_); refine box_event ?hg (N := 2) ?hd (cs := #[.slice none 0 0]) (t := 35) ?hr ?_; (case hd => rfl); (case hg => rfl); (case hr => first | (go_simp; done) | (go_simp; rfl)); intro gb922 hg w4 hbox hb; have n0_ := am_ (blk_below (bu BK921.out) hb); have n1_ := am_ (below_step z45_2 hb); have n2_ := am_ (hbox); have n3_ := am_ (by rw [hg]; exact (below_size z45_2) : w.heap.size ≤ gb922); have n4_ := am_ (by rw [hg]; exact (below_size z45_2) : w.heap.size ≤ gb922); have n5_ := am_ (by rw [hg]; exact Nat.ne_of_lt (blk_lt (bu BK921.out)) : gb921 ≠ gb922); have n6_ := am_ (by rw [hg]; exact Nat.ne_of_gt (blk_lt (bu BK921.out)) : gb922 ≠ gb921); clear BK921 HB; have BK921 := n0_; have HB := n1_; have BK922 := n2_; have GW922 := n3_; have GE922 := n4_; have NB921_922 := n5_; have NB922_921 := n6_; clear n0_ n1_ n2_ n3_ n4_ n5_ n6_; clear hb hbox hg) | ((with_reducible refine gate_dst (N := 3) rfl ?_); refine box_event ?hg (N := 3) ?hd (cs := #[.slice none 0 0]) (t := 35) ?hr ?_; (case hd => rfl); (case hg => rfl); (case hr => first | (go_simp; done) | (go_simp; rfl)); intro gb923 hg w5 hbox hb; have n0_ := am_ (blk_below (bu BK921.out) hb); have n1_ := am_ (blk_below (bu BK922.out) hb); have n2_ := am_ (below_step z45_3 hb); have n3_ := am_ (hbox); have n4_ := am_ (by rw [hg]; exact (below_size z45_3) : w.heap.size ≤ gb923); have n5_ := am_ (by rw [hg]; exact (below_size z45_3) : w.heap.size ≤ gb923); have n6_ := am_ (by rw [hg]; exact Nat.ne_of_lt (blk_lt (bu BK921.out)) : gb921 ≠ gb923); have n7_ := am_ (by rw [hg]; exact Nat.ne_of_gt (blk_lt (bu BK921.out)) : gb923 ≠ gb921); have n8_ := am_ (by rw [hg]; exact Nat.ne_of_lt (blk_lt (bu BK922.out)) : gb922 ≠ gb923); have n9_ := am_ (by rw [hg]; exact Nat.ne_of_gt (blk_lt (bu BK922.out)) : gb923 ≠ gb922); clear BK921 BK922 HB; have BK921 := n0_; have BK922 := n1_; have HB := n2_; have BK923 := n3_; have GW923 := n4_; have GE923 := n5_; have NB921_923 := n6_; have NB923_921 := n7_; have NB922_923 := n8_; have NB923_922 := n9_; clear n0_ n1_ n2_ n3_ n4_ n5_ n6_ n7_ n8_ n9_; clear hb hbox hg; have hnb6 := NB921_922.out; have hnc6 := NB922_921.out; have hnb7 := NB921_923.out; have hnc7 := NB923_921.out; have hcz8_0 : w5.cell? ⟨gb921, 0, none⟩ = some (.slice A0_0 l0_0.length c0_0) := (blk_cell BK921.out 0).trans rfl; have hfz8_0 := blk_frozen BK921.out 0) | ((with_reducible refine gate_callee (f := 95) rfl ?_); refine goesL_ (some 6) rfl rfl Try.func95 (by kernel_rfl) rfl #[.slice A0_0 l0_0.length c0_0] rfl (by (try simp only [List.map_toArray, List.map_cons, List.map_nil]); first | done | rfl | (simp only [List.length_drop, List.length_take]; rfl)) ?_; (with_reducible refine (laws_toDoSS.calls k _ _ l0_0 t924 _ ?side1 ?side2 A2.out).mono ?_); (case side1 => repeat (first | exact (Kd.C_below HR0_0.out HB.out) | (with_reducible refine Kd.C_alloc ?_ _) | (with_reducible refine Kd.C_drewN ?_ _) | (with_reducible refine Kd.C_drew ?_))); (case side2 => exact HC0_0.out); rintro e w9 ⟨v925, rfl, ho0, hb⟩; refine ⟨_, rfl, ?_⟩; have n0_ := am_ (Kd.S_lower ho0 (below_size z45_4)); have n1_ := am_ (blk_below (bu BK921.out) hb); have n2_ := am_ (blk_below (bu BK922.out) hb); have n3_ := am_ (blk_below (bu BK923.out) hb); have n4_ := am_ (below_step z45_4 hb); clear BK921 BK922 BK923 HB; have HO926 := n0_; have BK921 := n1_; have BK922 := n2_; have BK923 := n3_; have HB := n4_; clear n0_ n1_ n2_ n3_ n4_; (try clear hb); (try clear hb2); (try clear hk); (try clear hi); (try clear ho0); obtain ⟨Ao10, co10, eo10⟩ := Kd.S_slice HO926.out; subst eo10; have hnb11 := NB923_922.out; have hnc11 := NB922_923.out; have hcz12_0 : w9.cell? ⟨gb923, 0, none⟩ = some (.slice none 0 0) := (blk_cell BK923.out 0).trans rfl; have hfz12_0 := blk_frozen BK923.out 0; have hcz13_0 : w9.cell? ⟨gb922, 0, none⟩ = some (.slice none 0 0) := (blk_cell BK922.out 0).trans rfl; have hfz13_0 := blk_frozen BK922.out 0))
 refine bodyPost_ret (results_cell_row rfl _ _ gb922 35 #[.slice Ao10 t924.length co10] (0, 0) _ rfl (by (with_reducible repeat (first | refine blk_drewN ?_ _ | refine blk_drew ?_ | refine blk_alloc ?_ _)); refine blk_put (cs := #[.slice none 0 0]) ?_ 0 _ rfl; (with_reducible repeat (first | refine blk_drewN ?_ _ | refine blk_drew ?_ | refine blk_alloc ?_ _)); refine blk_far ?_ NB922_923.out _; (with_reducible repeat (first | refine blk_drewN ?_ _ | refine blk_drew ?_ | refine blk_alloc ?_ _)); exact BK922.out) Try.underlying35 rfl (by kernel_rfl)) rfl ?_
 exact ⟨_, by first | rfl | (simp [errW_none, errW_some] <;> rfl) | (simp [*, errW_none, errW_some] <;> rfl), su (Kd.S_mono (Kd.S_far (p := ⟨gb922, 0, none⟩) (Kd.S_far (p := ⟨gb923, 0, none⟩) (Kd.S_types (Kd.S_types HO926.out BK923.out (by decide)) BK922.out (by decide)) (fun _ hk => hk.1.2) (.slice Ao10 t924.length co10)) (fun _ hk => hk.2) (.slice Ao10 t924.length co10)) (fun _ hk => trivial)), z45_4⟩

end Go.Proofs.Ytefkbmhkhpekjaa.PB

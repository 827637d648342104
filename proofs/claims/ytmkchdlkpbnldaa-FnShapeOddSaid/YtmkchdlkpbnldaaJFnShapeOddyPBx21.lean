-- Written by this session's wip/myprint.py (the kit's print.py, with hand-written chunks). Lean checks it.
import Derived.Test.YtmkchdlkpbnldaaPBx0
import Derived.Test.YtmkchdlkpbnldaaPBx16
import Derived.Test.YtmkchdlkpbnldaaJFnShapeOddx2
import Derived.Test.YtmkchdlkpbnldaaJFnShapeOddyPBx38
namespace Go.Proofs.Ytmkchdlkpbnldaa.PB
open Go.RowKit Go.Proofs.YtmkchdlkpbnldaaW.PrintWords Go.Proofs.YtmkchdlkpbnldaaW.PrintLast Go.Proofs.YtmkchdlkpbnldaaW.PrintMore
attribute [local go_sem] max2_int min2_int max_two min_two max_three min_three max_four min_four   -- for this text's walks alone
open Go.Proofs.YtmkchdlkpbnldaaMine
set_option linter.unusedVariables false
set_option linter.unusedSimpArgs false

theorem z21_1 {p : Prop} (h : p := by first | rfl | (simp; done) | (simp [*]; done)) : p := h
theorem z21_2 {p : Prop} (h : p := by first | (with_reducible assumption) | assumption) : p := h
theorem z21_3 {p : Prop} (h : p := by repeat (first | (with_reducible first | exact HB.out | apply below_alloc | apply pw_below_drewN | apply below_drew1) | exact HB.out)) : p := h
theorem z21_4 {p : Prop} (h : p := by repeat (first | (with_reducible first | exact HB.out | apply below_alloc | apply pw_below_drewN | apply below_drew1 | refine below_set ?_ GE441.out) | exact HB.out)) : p := h
theorem z21_5 {p : Prop} (h : p := by repeat (first | (with_reducible exact HR449_0.out) | (with_reducible refine Kd.C_alloc ?_ _) | (with_reducible refine Kd.C_drewN ?_ _) | (with_reducible refine Kd.C_drew ?_) | exact HR449_0.out)) : p := h
theorem z21_6 {p : Prop} (h : p := by repeat (first | (with_reducible first | exact HB.out | apply below_alloc | apply pw_below_drewN | apply below_drew1 | refine below_set ?_ GE441.out | refine below_set ?_ GE453.out) | exact HB.out)) : p := h
/-! ### impl_scene_all: function 21 -/
mutual
def impl_scene_all.l0 : Nat → List (List (List Int)) → List (S40) → List (List Int) → Int → Int → List (List (S70)) → List (S80) → List (S70) → Option ((List (S40)))
  | 0, _, _, _, _, _, _, _, _ => none
  | k + 1, x3, x4, x15, x16, x17, x02, x03, x04 => if x17 < x16 then (if 0 ≤ x17 then (if x17 < (x15.length : Int) then (impl_scene_all.l1 k x3 x4 (rd_L5 x15 x17) x15 x16 x17 x3 (x3.length : Int) 0 x02 x03 x04) else (none)) else (none)) else (some x4)
def impl_scene_all.l1 : Nat → List (List (List Int)) → List (S40) → List Int → List (List Int) → Int → Int → List (List (List Int)) → Int → Int → List (List (S70)) → List (S80) → List (S70) → Option ((List (S40)))
  | 0, _, _, _, _, _, _, _, _, _, _, _, _ => none
  | k + 1, x3, x4, x6, x15, x16, x17, x21, x22, x23, x02, x03, x04 => if x23 < x22 then (if 0 ≤ x23 then (if x23 < (x21.length : Int) then ((slices_Clone_int_int_16.f x6).bind fun t450 => (impl_scene_all.l2 k x3 x4 x6 x15 x16 x17 x21 x22 x23 (rd_L11 x21 x23) ((rd_L11 x21 x23).length : Int) 0 x02 x03 x04 t450 ([] : List (List Int)))) else (none)) else (none)) else (impl_scene_all.l0 k x3 x4 x15 x16 (wrap64 (x17 + 1)) x02 x03 x04)
def impl_scene_all.l2 : Nat → List (List (List Int)) → List (S40) → List Int → List (List Int) → Int → Int → List (List (List Int)) → Int → Int → List (List Int) → Int → Int → List (List (S70)) → List (S80) → List (S70) → List Int → List (List Int) → Option ((List (S40)))
  | 0, _, _, _, _, _, _, _, _, _, _, _, _, _, _, _, _, _ => none
  | k + 1, x3, x4, x6, x15, x16, x17, x21, x22, x23, x30, x31, x32, x02, x03, x04, x01, x00 => if x32 < x31 then (if 0 ≤ x32 then (if x32 < (x30.length : Int) then ((slices_Clone_int_int_16.f (rd_L5 x30 x32)).bind fun t455 => (if x00.length < 5864062014805 then (impl_scene_all.l2 k x3 x4 x6 x15 x16 x17 x21 x22 x23 x30 x31 (wrap64 (x32 + 1)) x02 x03 x04 x01 (x00 ++ [t455])) else (none))) else (none)) else (none)) else ((impl_scene_ok.f k x02 x03 x04 x01 x00).bind fun t461 => (if t461 = true then (if x4.length < 2932031007402 then (impl_scene_all.l1 k x3 (x4 ++ [(⟨x01, x00⟩ : S40)]) x6 x15 x16 x17 x21 x22 (wrap64 (x23 + 1)) x02 x03 x04) else (none)) else (impl_scene_all.l1 k x3 x4 x6 x15 x16 x17 x21 x22 (wrap64 (x23 + 1)) x02 x03 x04)))
end
def impl_scene_all.f (k : Nat) (l0_0 : List (List (S70))) (l0_1 : List (S80)) (l0_2 : List (S70)) : Option ((List (S40))) := (impl_scene_orders.f k l0_0 l0_1 l0_2).bind fun t442 => ((impl_scene_froms.f k l0_0 l0_1 l0_2).bind fun t445 => (impl_scene_all.l0 k t442 ([] : List (S40)) t445 (t445.length : Int) 0 l0_0 l0_1 l0_2))
def impl_scene_all.T13 : Bool × List (List Nat × List Nat) := (true, [([], []), ([0], [0]), ([], []), ([2], [2]), ([3], [3]), ([1, 4, 3], [1, 4]), ([0, 1, 2, 3, 4, 5], []), ([6, 5, 5, 0, 1, 2, 3, 4, 5], [5, 6])])
def impl_scene_all.B13 : List Nat := [0, 1, 0, 4, 12, 31, 63, 127]
theorem impl_scene_all.tab13 : rtab .any (opsOf Try.f21 13) = impl_scene_all.T13 := by kernel_rfl
theorem impl_scene_all.bits13 : waitsOk impl_scene_all.T13.2 impl_scene_all.B13 = true := by kernel_rfl
set_option maxHeartbeats 8000000 in
set_option maxRecDepth 100000 in
theorem impl_scene_all.calls (k : Nat) (A0_0 : Option Addr) (c0_0 : Nat) (l0_0 : List (List (S70))) (A0_1 : Option Addr) (c0_1 : Nat) (l0_1 : List (S80)) (A0_2 : Option Addr) (c0_2 : Nat) (l0_2 : List (S70)) (r : List (S40)) (w : World) (hr0_0 : Kd.C (Kd.slice 70 k70) w A0_0 l0_0.length l0_0) (hc0_0 : l0_0.length ≤ c0_0) (hr0_1 : Kd.C k80 w A0_1 l0_1.length l0_1) (hc0_1 : l0_1.length ≤ c0_1) (hr0_2 : Kd.C k70 w A0_2 l0_2.length l0_2) (hc0_2 : l0_2.length ≤ c0_2) (h : impl_scene_all.f k l0_0 l0_1 l0_2 = some r) :
  Calls Try.prog 21 #[.agg #[.slice A0_0 l0_0.length c0_0, .slice A0_1 l0_1.length c0_1, .slice A0_2 l0_2.length c0_2]] w fun e w' => ∃ v0_ : Value, e = .returned (v0_) ∧ Kd.N k40 40 w' w.heap.size (fun k_ => (w.heap.size ≤ k_)) v0_ r ∧ Below w.heap.size w w' := by
 have hu60 := Try.underlying60
 have hu40 := Try.underlying40
 have HR0_0 := am_ hr0_0
 have HC0_0 := am_ hc0_0
 clear hr0_0 hc0_0
 have HR0_1 := am_ hr0_1
 have HC0_1 := am_ hc0_1
 clear hr0_1 hc0_1
 have HR0_2 := am_ hr0_2
 have HC0_2 := am_ hc0_2
 clear hr0_2 hc0_2
 have HB := am_ (Below.refl w.heap.size w)
 have H : ((impl_scene_orders.f k l0_0 l0_1 l0_2).bind fun t442 => ((impl_scene_froms.f k l0_0 l0_1 l0_2).bind fun t445 => (impl_scene_all.l0 k t442 ([] : List (S40)) t445 (t445.length : Int) 0 l0_0 l0_1 l0_2))) = some r := h
 clear h
 replace H := Option.bind_eq_some_iff.mp H
 obtain ⟨t442, A20, H⟩ := H
 replace H : ((impl_scene_froms.f k l0_0 l0_1 l0_2).bind fun t445 => (impl_scene_all.l0 k t442 ([] : List (S40)) t445 (t445.length : Int) 0 l0_0 l0_1 l0_2)) = some r := H
 have A2 := am_ A20
 clear A20
 replace H := Option.bind_eq_some_iff.mp H
 obtain ⟨t445, A30, H⟩ := H
 replace H : (impl_scene_all.l0 k t442 ([] : List (S40)) t445 (t445.length : Int) 0 l0_0 l0_1 l0_2) = some r := H
 have A3 := am_ A30
 clear A30
 have H' := am_ H
 clear H
 go_enter Try.func21, Try.ntmps21
 go_wp2_with (first | ((with_reducible refine gate_dst (N := 1) rfl ?_); refine box_event ?hg (N := 1) ?hd (cs := #[.slice A0_0 l0_0.length c0_0, .slice A0_1 l0_1.length c0_1, .slice A0_2 l0_2.length c0_2]) (t := 60) ?hr ?_; (case hd => rfl); (case hg => rfl); (case hr => first | (go_simp; done) | (go_simp; rfl)); intro gb441 hg w4 hbox hb; have n0_ := am_ (below_step z21_3 hb); have n1_ := am_ (hbox); have n2_ := am_ (by rw [hg]; exact (below_size z21_3) : w.heap.size ≤ gb441); have n3_ := am_ (by rw [hg]; exact (below_size z21_3) : w.heap.size ≤ gb441); clear HB; have HB := n0_; have BK441 := n1_; have GW441 := n2_; have GE441 := n3_; clear n0_ n1_ n2_ n3_; clear hb hbox hg; have hcz5_0 := cf0 BK441.out; have hcz5_1 := cf1 BK441.out; have hcz5_2 := cf2 BK441.out; have hfz5_0 := blk_frozen BK441.out 0; have hfz5_1 := blk_frozen BK441.out 1; have hfz5_2 := blk_frozen BK441.out 2) | ((with_reducible refine gate_callee (f := 36) rfl ?_); refine goesL_ (some 13) rfl rfl Try.func36 (by kernel_rfl) rfl #[.agg #[.slice A0_0 l0_0.length c0_0, .slice A0_1 l0_1.length c0_1, .slice A0_2 l0_2.length c0_2]] rfl (by (try simp only [List.map_toArray, List.map_cons, List.map_nil]); first | done | rfl | (simp only [List.length_drop, List.length_take]; rfl)) ?_; (with_reducible refine (impl_scene_orders.calls k _ _ l0_0 _ _ l0_1 _ _ l0_2 t442 _ ?side1 ?side2 ?side3 ?side4 ?side5 ?side6 A2.out).mono ?_); (case side1 => repeat (first | exact (Kd.C_below HR0_0.out HB.out) | (with_reducible refine Kd.C_alloc ?_ _) | (with_reducible refine Kd.C_drewN ?_ _) | (with_reducible refine Kd.C_drew ?_))); (case side2 => exact HC0_0.out); (case side3 => repeat (first | exact (Kd.C_below HR0_1.out HB.out) | (with_reducible refine Kd.C_alloc ?_ _) | (with_reducible refine Kd.C_drewN ?_ _) | (with_reducible refine Kd.C_drew ?_))); (case side4 => exact HC0_1.out); (case side5 => repeat (first | exact (Kd.C_below HR0_2.out HB.out) | (with_reducible refine Kd.C_alloc ?_ _) | (with_reducible refine Kd.C_drewN ?_ _) | (with_reducible refine Kd.C_drew ?_))); (case side6 => exact HC0_2.out); rintro e w6 ⟨v443, rfl, ho0, hb⟩; refine ⟨_, rfl, ?_⟩; have HO444 := am_ (Kd.N_lower (Kd.N_mono (ok' := fun k_ => (w.heap.size ≤ k_) ∧ k_ ≠ gb441) ho0 (fun k_ hk_ => ⟨(Nat.le_trans (below_size z21_4) hk_), (Kd.freshB (bu BK441.out) k_ hk_)⟩)) (below_size z21_4)); replace BK441 := am_ (blk_below (bu BK441.out) hb); replace HB := am_ (below_step z21_4 hb); (try clear hb); (try clear hb2); (try clear hk); (try clear hi); (try clear ho0); have hcz7_0 := cf0 BK441.out; have hcz7_1 := cf1 BK441.out; have hcz7_2 := cf2 BK441.out; have hfz7_0 := blk_frozen BK441.out 0; have hfz7_1 := blk_frozen BK441.out 1; have hfz7_2 := blk_frozen BK441.out 2) | ((with_reducible refine gate_callee (f := 37) rfl ?_); refine goesL_ (some 15) rfl rfl Try.func37 (by kernel_rfl) rfl #[.agg #[.slice A0_0 l0_0.length c0_0, .slice A0_1 l0_1.length c0_1, .slice A0_2 l0_2.length c0_2]] rfl (by (try simp only [List.map_toArray, List.map_cons, List.map_nil]); first | done | rfl | (simp only [List.length_drop, List.length_take]; rfl)) ?_; (with_reducible refine (impl_scene_froms.calls k _ _ l0_0 _ _ l0_1 _ _ l0_2 t445 _ ?side1 ?side2 ?side3 ?side4 ?side5 ?side6 A3.out).mono ?_); (case side1 => repeat (first | exact (Kd.C_below HR0_0.out HB.out) | (with_reducible refine Kd.C_alloc ?_ _) | (with_reducible refine Kd.C_drewN ?_ _) | (with_reducible refine Kd.C_drew ?_))); (case side2 => exact HC0_0.out); (case side3 => repeat (first | exact (Kd.C_below HR0_1.out HB.out) | (with_reducible refine Kd.C_alloc ?_ _) | (with_reducible refine Kd.C_drewN ?_ _) | (with_reducible refine Kd.C_drew ?_))); (case side4 => exact HC0_1.out); (case side5 => repeat (first | exact (Kd.C_below HR0_2.out HB.out) | (with_reducible refine Kd.C_alloc ?_ _) | (with_reducible refine Kd.C_drewN ?_ _) | (with_reducible refine Kd.C_drew ?_))); (case side6 => exact HC0_2.out); rintro e w8 ⟨v446, rfl, ho0, hb⟩; refine ⟨_, rfl, ?_⟩; have n0_ := am_ (Kd.N_elder' (nu HO444.out) (by first | exact Kd.N_base ho0 | exact Kd.S_base ho0) hb); have n1_ := am_ (Kd.N_lower (Kd.N_mono (ok' := fun k_ => (w.heap.size ≤ k_) ∧ some k_ ≠ (v443 : Value).ownBlock ∧ k_ ≠ gb441) (Kd.S_N (Kd.S_bound ho0)) (fun k_ hk_ => ⟨(Nat.le_trans (below_size z21_4) hk_.2.1), (Kd.fresh' (Kd.N_lt (nu HO444.out)) k_ hk_.2.1), (Kd.freshB (bu BK441.out) k_ hk_.2.1)⟩)) (below_size z21_4)); have n2_ := am_ (blk_below (bu BK441.out) hb); have n3_ := am_ (below_step z21_4 hb); clear HO444 BK441 HB; have HO444 := n0_; have HO447 := n1_; have BK441 := n2_; have HB := n3_; clear n0_ n1_ n2_ n3_; (try clear hb); (try clear hb2); (try clear hk); (try clear hi); (try clear ho0); obtain ⟨Ao9, co9, eo9⟩ := Kd.N_slice HO447.out; subst eo9))
 go_loopg [4, 17] k (fun kq v4 v17 w' => ∃ (x4_1 : List (S40)) (x17_1 : Int), v17 = .int .i64 x17_1 ∧ Aside0 (impl_scene_all.l0 kq t442 x4_1 t445 (t445.length : Int) x17_1 l0_0 l0_1 l0_2 = some r) ∧ Aside0 (kq ≤ k) ∧ Aside0 (Kd.N (Kd.slice 24 (Kd.slice 3 (Kd.int .i64))) 38 w' w.heap.size (fun k_ => (w.heap.size ≤ k_) ∧ some k_ ≠ (v4 : Value).ownBlock ∧ some k_ ≠ ((.slice Ao9 t445.length co9) : Value).ownBlock ∧ k_ ≠ gb441) v443 t442) ∧ Aside0 (Kd.N k40 40 w' w.heap.size (fun k_ => (w.heap.size ≤ k_) ∧ some k_ ≠ (v443 : Value).ownBlock ∧ some k_ ≠ ((.slice Ao9 t445.length co9) : Value).ownBlock ∧ k_ ≠ gb441) v4 x4_1) ∧ Aside0 (Kd.N (Kd.slice 3 (Kd.int .i64)) 24 w' w.heap.size (fun k_ => (w.heap.size ≤ k_) ∧ some k_ ≠ (v443 : Value).ownBlock ∧ some k_ ≠ (v4 : Value).ownBlock ∧ k_ ≠ gb441) (.slice Ao9 t445.length co9) t445) ∧ Aside0 (w'.heap[gb441]? = some (.cells #[(.slice A0_0 l0_0.length c0_0), (.slice A0_1 l0_1.length c0_1), (.slice A0_2 l0_2.length c0_2)] 60 (0, 0))) ∧ Aside0 (Below w.heap.size w w'))
 case atStart => exact ⟨(([] : List (S40))), (0), z21_1, H', ⟨Nat.le_refl _⟩, ⟨nu (Kd.N_mono HO444.out (fun _ hk => ⟨hk.1.1, ⟨(by simp [Value.ownBlock]), ⟨hk.2, hk.1.2⟩⟩⟩))⟩, ⟨by first | exact Kd.R_nil _ _ _ _ _ | exact Kd.N_nil _ _ _ _ _ | exact Kd.V_nil _ _ _ _ _ | exact Kd.Q_nil _ _ _ _ _ | exact Kd.S_nil _ _ _ _ _⟩, ⟨nu (Kd.N_mono HO447.out (fun _ hk => ⟨hk.1, ⟨hk.2.1, ⟨(by simp [Value.ownBlock]), hk.2.2⟩⟩⟩))⟩, ⟨bu BK441.out⟩, ⟨z21_4⟩⟩
 case round =>
  clear H'
  obtain ⟨x4_1, x17_1, rfl, HA, HK1, HO_3, HO_4, HO_15, BK441, HB⟩ := hrel
  cases gk with
  | zero => exact absurd HA.out (by simp [impl_scene_all.l0])
  | succ k1 =>
   have H := HA.out
   clear HA
   simp only [impl_scene_all.l0] at H
   by_cases c10 : x17_1 < (t445.length : Int)
   ·rw [if_pos c10] at H
    have c10b0 : decide (x17_1 < (t445.length : Int)) = true := decide_eq_true c10
    clear c10
    by_cases c11 : 0 ≤ x17_1
    ·rw [if_pos c11] at H
     have c11b0 : decide (0 ≤ x17_1) = true := decide_eq_true c11
     clear c11
     by_cases c12 : x17_1 < (t445.length : Int)
     ·rw [if_pos c12] at H
      have c12b0 : decide (x17_1 < (t445.length : Int)) = true := decide_eq_true c12
      clear c12
      have H' := am_ H
      clear H
      have p448 : 0 ≤ (x17_1 : Int) := of_decide_eq_true z21_2
      have q448 : x17_1 < (t445.length : Int) := of_decide_eq_true z21_2
      obtain ⟨ad448, A448_0, c448_0, e448, hx448_0, hl448_0, hi448_0⟩ := at_L5 (Kd.N_reads' HO_15.out).2.2 x17_1 p448 q448
      cases e448
      obtain ⟨ce448, hce448, hMe448, hcc448⟩ := Kd.N_get HO_15.out [] x17_1 p448 (by first | exact q448 | exact of_decide_eq_true z21_2 | (have e_ := (Kd.N_reads' HO_15.out).1; omega))
      obtain ⟨ua448_0, uc448_0, rfl, ul448_0, ge448_0⟩ := Kd.FK_slice_open hMe448
      have hv448_0 := hcc448 0 _ rfl
      rw [Nat.add_zero, show ((Kd.slice 3 (Kd.int .i64))).sz = 1 from rfl, Nat.mul_one] at hv448_0
      replace hv448_0 := Option.some.inj (hv448_0.symm.trans hx448_0)
      injection hv448_0 with hva_ hvn_ hvc_
      rw [hva_] at ge448_0
      rw [hvc_] at ul448_0
      have HL448_0 := am_ (show Kd.V (Kd.int .i64) 3 _ w.heap.size _ _ (rd_L5 t445 x17_1) from Kd.V_mk ul448_0 ge448_0)
      clear hva_ hvn_ hvc_ ge448_0 ul448_0 hcc448 hce448
      have HR448_0 := am_ hi448_0
      have HC448_0 := am_ hl448_0
      clear hi448_0 hl448_0
      replace p448 := eq_true p448
      replace q448 := eq_true q448
      obtain ⟨Ao13, co13, eo13⟩ := Kd.N_slice HO_3.out
      subst eo13
      go_wp2
      go_loopg [4, 23] k1 (fun kq v4 v23 w' => ∃ (x4_2 : List (S40)) (x23_2 : Int), v23 = .int .i64 x23_2 ∧ Aside0 (impl_scene_all.l1 kq t442 x4_2 (rd_L5 t445 x17_1) t445 (t445.length : Int) x17_1 t442 (t442.length : Int) x23_2 l0_0 l0_1 l0_2 = some r) ∧ Aside0 (kq ≤ k1) ∧ Aside0 (Kd.N (Kd.slice 24 (Kd.slice 3 (Kd.int .i64))) 38 w' w.heap.size (fun k_ => (w.heap.size ≤ k_) ∧ some k_ ≠ (v4 : Value).ownBlock ∧ some k_ ≠ ((.slice (some ad448) t445.length co9) : Value).ownBlock ∧ k_ ≠ gb441) (.slice Ao13 t442.length co13) t442) ∧ Aside0 (Kd.N k40 40 w' w.heap.size (fun k_ => (w.heap.size ≤ k_) ∧ some k_ ≠ ((.slice Ao13 t442.length co13) : Value).ownBlock ∧ some k_ ≠ ((.slice (some ad448) t445.length co9) : Value).ownBlock ∧ some k_ ≠ ((.slice Ao13 t442.length co13) : Value).ownBlock ∧ k_ ≠ gb441) v4 x4_2) ∧ Aside0 (Kd.N (Kd.slice 3 (Kd.int .i64)) 24 w' w.heap.size (fun k_ => (w.heap.size ≤ k_) ∧ some k_ ≠ ((.slice Ao13 t442.length co13) : Value).ownBlock ∧ some k_ ≠ (v4 : Value).ownBlock ∧ some k_ ≠ ((.slice Ao13 t442.length co13) : Value).ownBlock ∧ k_ ≠ gb441) (.slice (some ad448) t445.length co9) t445) ∧ Aside0 (Kd.N (Kd.slice 24 (Kd.slice 3 (Kd.int .i64))) 38 w' w.heap.size (fun k_ => (w.heap.size ≤ k_) ∧ some k_ ≠ (v4 : Value).ownBlock ∧ some k_ ≠ ((.slice (some ad448) t445.length co9) : Value).ownBlock ∧ k_ ≠ gb441) (.slice Ao13 t442.length co13) t442) ∧ Aside0 (w'.heap[gb441]? = some (.cells #[(.slice A0_0 l0_0.length c0_0), (.slice A0_1 l0_1.length c0_1), (.slice A0_2 l0_2.length c0_2)] 60 (0, 0))) ∧ Aside0 (Kd.V (Kd.int .i64) 3 w' w.heap.size (fun k_ => some k_ ≠ (v4 : Value).ownBlock) (.slice A448_0 (rd_L5 t445 x17_1).length c448_0) (rd_L5 t445 x17_1)) ∧ Aside0 (Below w.heap.size w w'))
      case atStart => exact ⟨(x4_1), (0), z21_1, H', ⟨Nat.le_refl _⟩, ⟨nu HO_3.out⟩, ⟨nu (Kd.N_mono HO_4.out (fun _ hk => ⟨hk.1, ⟨hk.2.1, ⟨hk.2.2.1, ⟨hk.2.1, hk.2.2.2⟩⟩⟩⟩))⟩, ⟨nu (Kd.N_mono HO_15.out (fun _ hk => ⟨hk.1, ⟨hk.2.1, ⟨hk.2.2.1, ⟨hk.2.1, hk.2.2.2⟩⟩⟩⟩))⟩, ⟨nu HO_3.out⟩, ⟨bu BK441.out⟩, ⟨vu (Kd.V_mono (vu HL448_0.out) (fun _ hk => hk.1.2.2.1))⟩, ⟨z21_4⟩⟩
      case round =>
       clear H'
       obtain ⟨x4_2, x23_2, rfl, HA, HK2, HO_3, HO_4, HO_15, HO_21, BK441, HVa, HB⟩ := hrel
       cases gk with
       | zero => exact absurd HA.out (by simp [impl_scene_all.l1])
       | succ k2 =>
        have H := HA.out
        clear HA
        simp only [impl_scene_all.l1] at H
        by_cases c14 : x23_2 < (t442.length : Int)
        ·rw [if_pos c14] at H
         have c14b0 : decide (x23_2 < (t442.length : Int)) = true := decide_eq_true c14
         clear c14
         by_cases c15 : 0 ≤ x23_2
         ·rw [if_pos c15] at H
          have c15b0 : decide (0 ≤ x23_2) = true := decide_eq_true c15
          clear c15
          by_cases c16 : x23_2 < (t442.length : Int)
          ·rw [if_pos c16] at H
           have c16b0 : decide (x23_2 < (t442.length : Int)) = true := decide_eq_true c16
           clear c16
           replace H := Option.bind_eq_some_iff.mp H
           obtain ⟨t450, A170, H⟩ := H
           replace H : (impl_scene_all.l2 k2 t442 x4_2 (rd_L5 t445 x17_1) t445 (t445.length : Int) x17_1 t442 (t442.length : Int) x23_2 (rd_L11 t442 x23_2) ((rd_L11 t442 x23_2).length : Int) 0 l0_0 l0_1 l0_2 t450 ([] : List (List Int))) = some r := H
           have A17 := am_ A170
           clear A170
           have H' := am_ H
           clear H
           have p449 : 0 ≤ (x23_2 : Int) := of_decide_eq_true z21_2
           have q449 : x23_2 < (t442.length : Int) := of_decide_eq_true z21_2
           obtain ⟨ad449, A449_0, c449_0, e449, hx449_0, hl449_0, hi449_0⟩ := at_L11 (Kd.N_reads' HO_21.out).2.2 x23_2 p449 q449
           cases e449
           obtain ⟨ce449, hce449, hMe449, hcc449⟩ := Kd.N_get HO_21.out [] x23_2 p449 (by first | exact q449 | exact of_decide_eq_true z21_2 | (have e_ := (Kd.N_reads' HO_21.out).1; omega))
           obtain ⟨ua449_0, uc449_0, rfl, ul449_0, ge449_0⟩ := Kd.FK_slice_open hMe449
           have hv449_0 := hcc449 0 _ rfl
           rw [Nat.add_zero, show ((Kd.slice 24 (Kd.slice 3 (Kd.int .i64)))).sz = 1 from rfl, Nat.mul_one] at hv449_0
           replace hv449_0 := Option.some.inj (hv449_0.symm.trans hx449_0)
           injection hv449_0 with hva_ hvn_ hvc_
           rw [hva_] at ge449_0
           rw [hvc_] at ul449_0
           have HL449_0 := am_ (show Kd.V (Kd.slice 3 (Kd.int .i64)) 24 _ w.heap.size _ _ (rd_L11 t442 x23_2) from Kd.V_mk ul449_0 ge449_0)
           clear hva_ hvn_ hvc_ ge449_0 ul449_0 hcc449 hce449
           have HR449_0 := am_ hi449_0
           have HC449_0 := am_ hl449_0
           clear hi449_0 hl449_0
           replace p449 := eq_true p449
           replace q449 := eq_true q449
           go_wp2_with (first | ((with_reducible refine gate_callee (f := 16) rfl ?_); refine goesL_ (some 28) rfl rfl Try.func16 (by kernel_rfl) rfl #[.slice A448_0 (rd_L5 t445 x17_1).length c448_0] rfl (by (try simp only [List.map_toArray, List.map_cons, List.map_nil]); first | done | rfl | (simp only [List.length_drop, List.length_take]; rfl)) ?_; (with_reducible refine (slices_Clone_int_int_16.calls _ _ (rd_L5 t445 x17_1) t450 _ ?side1 ?side2 A17.out).mono ?_); (case side1 => repeat (first | exact (Kd.V_reads' (vu HVa.out)).2.2 | (with_reducible refine Kd.C_alloc ?_ _) | (with_reducible refine Kd.C_drewN ?_ _) | (with_reducible refine Kd.C_drew ?_))); (case side2 => exact HC448_0.out); rintro e w18 ⟨v451, rfl, ho0, hb⟩; refine ⟨_, rfl, ?_⟩; replace HVa := am_ (Kd.V_elder' (vu HVa.out) (Kd.R_base ho0) hb); replace HO_3 := am_ (Kd.N_elder' (nu HO_3.out) (Kd.R_base ho0) hb); replace HO_4 := am_ (Kd.N_elder' (nu HO_4.out) (Kd.R_base ho0) hb); replace HO_15 := am_ (Kd.N_elder' (nu HO_15.out) (Kd.R_base ho0) hb); replace HO_21 := am_ (Kd.N_elder' (nu HO_21.out) (Kd.R_base ho0) hb); replace HL449_0 := am_ (Kd.V_elder' (vu HL449_0.out) (Kd.R_base ho0) hb); have HO452 := am_ (Kd.R_lower (Kd.R_newM (M := fun k_ => (w.heap.size ≤ k_)) ho0 (below_size z21_4) (fun k_ h_ => h_)) (below_size z21_4)); replace BK441 := am_ (blk_below (bu BK441.out) hb); replace HR449_0 := am_ (Kd.C_below z21_5 hb); replace HB := am_ (below_step z21_4 hb); (try clear hb); (try clear hb2); (try clear hk); (try clear hi); (try clear ho0); obtain ⟨Ao19, co19, eo19⟩ := Kd.R_slice HO452.out; subst eo19) | ((with_reducible refine gate_dst (N := 9) rfl ?_); refine box_event ?hg (N := 9) ?hd (cs := #[.slice none 0 0, .slice none 0 0]) (t := 40) ?hr ?_; (case hd => rfl); (case hg => rfl); (case hr => first | (go_simp; done) | (go_simp; rfl)); intro gb453 hg w20 hbox hb; replace HVa := am_ (Kd.V_below (Kd.V_elderB (vu HVa.out) gb453 (Nat.le_of_eq hg.symm)) hb); have n0_ := am_ (Kd.N_below (Kd.N_elderB (nu HO_3.out) gb453 (Nat.le_of_eq hg.symm)) hb); have n1_ := am_ (Kd.N_below (Kd.N_elderB (nu HO_4.out) gb453 (Nat.le_of_eq hg.symm)) hb); have n2_ := am_ (Kd.N_below (Kd.N_elderB (nu HO_15.out) gb453 (Nat.le_of_eq hg.symm)) hb); have n3_ := am_ (Kd.N_below (Kd.N_elderB (nu HO_21.out) gb453 (Nat.le_of_eq hg.symm)) hb); have n4_ := am_ (Kd.V_below (Kd.V_elderB (vu HL449_0.out) gb453 (Nat.le_of_eq hg.symm)) hb); have n5_ := am_ (Kd.R_below (ru HO452.out) hb); have n6_ := am_ (blk_below (bu BK441.out) hb); have n7_ := am_ (Kd.C_below z21_5 hb); have n8_ := am_ (below_step z21_4 hb); have n9_ := am_ (hbox); have n10_ := am_ (by rw [hg]; exact (below_size z21_4) : w.heap.size ≤ gb453); have n11_ := am_ (by rw [hg]; exact (below_size z21_4) : w.heap.size ≤ gb453); have n12_ := am_ (by rw [hg]; exact Nat.ne_of_lt (blk_lt (bu BK441.out)) : gb441 ≠ gb453); have n13_ := am_ (by rw [hg]; exact Nat.ne_of_gt (blk_lt (bu BK441.out)) : gb453 ≠ gb441); clear HO_3 HO_4 HO_15 HO_21 HL449_0 HO452 BK441 HR449_0 HB; have HO_3 := n0_; have HO_4 := n1_; have HO_15 := n2_; have HO_21 := n3_; have HL449_0 := n4_; have HO452 := n5_; have BK441 := n6_; have HR449_0 := n7_; have HB := n8_; have BK453 := n9_; have GW453 := n10_; have GE453 := n11_; have NB441_453 := n12_; have NB453_441 := n13_; clear n0_ n1_ n2_ n3_ n4_ n5_ n6_ n7_ n8_ n9_ n10_ n11_ n12_ n13_; clear hb hbox hg; have hnb21 := NB453_441.out; have hnc21 := NB441_453.out; have hcz22_0 := cf0 BK453.out; have hcz22_1 := cf1 BK453.out; have hfz22_0 := blk_frozen BK453.out 0; have hfz22_1 := blk_frozen BK453.out 1))
           go_loopg [32] k2 (fun kq v32 w' => ∃ (x32_3 : Int) (x00_3 : List (List Int)) (u00 : Value), v32 = .int .i64 x32_3 ∧ Aside0 (impl_scene_all.l2 kq t442 x4_2 (rd_L5 t445 x17_1) t445 (t445.length : Int) x17_1 t442 (t442.length : Int) x23_2 (rd_L11 t442 x23_2) ((rd_L11 t442 x23_2).length : Int) x32_3 l0_0 l0_1 l0_2 t450 x00_3 = some r) ∧ Aside0 (kq ≤ k2) ∧ Aside0 (Kd.N (Kd.slice 24 (Kd.slice 3 (Kd.int .i64))) 38 w' w.heap.size (fun k_ => (w.heap.size ≤ k_) ∧ some k_ ≠ (u4 : Value).ownBlock ∧ some k_ ≠ ((.slice (some ad448) t445.length co9) : Value).ownBlock ∧ some k_ ≠ ((.slice Ao19 t450.length co19) : Value).ownBlock ∧ some k_ ≠ (u00 : Value).ownBlock ∧ k_ ≠ gb441 ∧ k_ ≠ gb453) (.slice (some ad449) t442.length co13) t442) ∧ Aside0 (Kd.N k40 40 w' w.heap.size (fun k_ => (w.heap.size ≤ k_) ∧ some k_ ≠ ((.slice (some ad449) t442.length co13) : Value).ownBlock ∧ some k_ ≠ ((.slice (some ad448) t445.length co9) : Value).ownBlock ∧ some k_ ≠ ((.slice (some ad449) t442.length co13) : Value).ownBlock ∧ some k_ ≠ ((.slice Ao19 t450.length co19) : Value).ownBlock ∧ some k_ ≠ (u00 : Value).ownBlock ∧ k_ ≠ gb441 ∧ k_ ≠ gb453) u4 x4_2) ∧ Aside0 (Kd.N (Kd.slice 3 (Kd.int .i64)) 24 w' w.heap.size (fun k_ => (w.heap.size ≤ k_) ∧ some k_ ≠ ((.slice (some ad449) t442.length co13) : Value).ownBlock ∧ some k_ ≠ (u4 : Value).ownBlock ∧ some k_ ≠ ((.slice (some ad449) t442.length co13) : Value).ownBlock ∧ some k_ ≠ ((.slice Ao19 t450.length co19) : Value).ownBlock ∧ some k_ ≠ (u00 : Value).ownBlock ∧ k_ ≠ gb441 ∧ k_ ≠ gb453) (.slice (some ad448) t445.length co9) t445) ∧ Aside0 (Kd.N (Kd.slice 24 (Kd.slice 3 (Kd.int .i64))) 38 w' w.heap.size (fun k_ => (w.heap.size ≤ k_) ∧ some k_ ≠ (u4 : Value).ownBlock ∧ some k_ ≠ ((.slice (some ad448) t445.length co9) : Value).ownBlock ∧ some k_ ≠ ((.slice Ao19 t450.length co19) : Value).ownBlock ∧ some k_ ≠ (u00 : Value).ownBlock ∧ k_ ≠ gb441 ∧ k_ ≠ gb453) (.slice (some ad449) t442.length co13) t442) ∧ Aside0 (Kd.R (Kd.int .i64) 3 w' w.heap.size (fun k_ => (w.heap.size ≤ k_)) (.slice Ao19 t450.length co19) t450) ∧ Aside0 (Kd.N (Kd.slice 3 (Kd.int .i64)) 24 w' w.heap.size (fun k_ => (w.heap.size ≤ k_) ∧ some k_ ≠ ((.slice (some ad449) t442.length co13) : Value).ownBlock ∧ some k_ ≠ (u4 : Value).ownBlock ∧ some k_ ≠ ((.slice (some ad448) t445.length co9) : Value).ownBlock ∧ some k_ ≠ ((.slice (some ad449) t442.length co13) : Value).ownBlock ∧ some k_ ≠ ((.slice Ao19 t450.length co19) : Value).ownBlock ∧ k_ ≠ gb441 ∧ k_ ≠ gb453) u00 x00_3) ∧ Aside0 (w'.heap[gb441]? = some (.cells #[(.slice A0_0 l0_0.length c0_0), (.slice A0_1 l0_1.length c0_1), (.slice A0_2 l0_2.length c0_2)] 60 (0, 0))) ∧ Aside0 (w'.heap[gb453]? = some (.cells #[(.slice Ao19 t450.length co19), u00] 40 (0, 0))) ∧ Aside0 (Kd.V (Kd.int .i64) 3 w' w.heap.size (fun k_ => some k_ ≠ (u4 : Value).ownBlock ∧ some k_ ≠ (u00 : Value).ownBlock ∧ k_ ≠ gb453) (.slice A448_0 (rd_L5 t445 x17_1).length c448_0) (rd_L5 t445 x17_1)) ∧ Aside0 (Kd.V (Kd.slice 3 (Kd.int .i64)) 24 w' w.heap.size (fun k_ => some k_ ≠ (u00 : Value).ownBlock ∧ k_ ≠ gb453) (.slice A449_0 (rd_L11 t442 x23_2).length c449_0) (rd_L11 t442 x23_2)) ∧ Aside0 (Below w.heap.size w w'))
           case atStart => exact ⟨(0), (([] : List (List Int))), (.slice none 0 0), z21_1, H', ⟨Nat.le_refl _⟩, ⟨nu (Kd.N_mono (Kd.N_far (p := ⟨gb453, 1, none⟩) (Kd.N_far (p := ⟨gb453, 0, none⟩) (Kd.N_mono HO_3.out (fun k_ hk => (⟨hk, hk.2⟩ : _ ∧ k_ ≠ gb453))) (fun _ hk => hk.2) (.slice Ao19 t450.length co19)) (fun _ hk => hk.2) (.slice none 0 0)) (fun _ hk => ⟨hk.1.1.1.1, ⟨hk.1.1.1.2.1, ⟨hk.1.1.1.2.2.1, ⟨hk.1.1.2, ⟨(by simp [Value.ownBlock]), ⟨hk.1.1.1.2.2.2, hk.1.2⟩⟩⟩⟩⟩⟩))⟩, ⟨nu (Kd.N_mono (Kd.N_far (p := ⟨gb453, 1, none⟩) (Kd.N_far (p := ⟨gb453, 0, none⟩) (Kd.N_mono HO_4.out (fun k_ hk => (⟨hk, hk.2⟩ : _ ∧ k_ ≠ gb453))) (fun _ hk => hk.2) (.slice Ao19 t450.length co19)) (fun _ hk => hk.2) (.slice none 0 0)) (fun _ hk => ⟨hk.1.1.1.1, ⟨hk.1.1.1.2.1, ⟨hk.1.1.1.2.2.1, ⟨hk.1.1.1.2.2.2.1, ⟨hk.1.1.2, ⟨(by simp [Value.ownBlock]), ⟨hk.1.1.1.2.2.2.2, hk.1.2⟩⟩⟩⟩⟩⟩⟩))⟩, ⟨nu (Kd.N_mono (Kd.N_far (p := ⟨gb453, 1, none⟩) (Kd.N_far (p := ⟨gb453, 0, none⟩) (Kd.N_mono HO_15.out (fun k_ hk => (⟨hk, hk.2⟩ : _ ∧ k_ ≠ gb453))) (fun _ hk => hk.2) (.slice Ao19 t450.length co19)) (fun _ hk => hk.2) (.slice none 0 0)) (fun _ hk => ⟨hk.1.1.1.1, ⟨hk.1.1.1.2.1, ⟨hk.1.1.1.2.2.1, ⟨hk.1.1.1.2.2.2.1, ⟨hk.1.1.2, ⟨(by simp [Value.ownBlock]), ⟨hk.1.1.1.2.2.2.2, hk.1.2⟩⟩⟩⟩⟩⟩⟩))⟩, ⟨nu (Kd.N_mono (Kd.N_far (p := ⟨gb453, 1, none⟩) (Kd.N_far (p := ⟨gb453, 0, none⟩) (Kd.N_mono HO_21.out (fun k_ hk => (⟨hk, hk.2⟩ : _ ∧ k_ ≠ gb453))) (fun _ hk => hk.2) (.slice Ao19 t450.length co19)) (fun _ hk => hk.2) (.slice none 0 0)) (fun _ hk => ⟨hk.1.1.1.1, ⟨hk.1.1.1.2.1, ⟨hk.1.1.1.2.2.1, ⟨hk.1.1.2, ⟨(by simp [Value.ownBlock]), ⟨hk.1.1.1.2.2.2, hk.1.2⟩⟩⟩⟩⟩⟩))⟩, ⟨ru (Kd.R_mono (Kd.R_far (p := ⟨gb453, 1, none⟩) (Kd.R_far (p := ⟨gb453, 0, none⟩) (Kd.R_types HO452.out BK453.out (by decide)) (fun _ hk => hk.2) (.slice Ao19 t450.length co19)) (fun _ hk => hk.2) (.slice none 0 0)) (fun _ hk => hk.1.1))⟩, ⟨by first | exact Kd.S_nil _ _ _ _ _ | exact Kd.N_nil _ _ _ _ _ | exact Kd.V_nil _ _ _ _ _ | exact Kd.Q_nil _ _ _ _ _ | exact Kd.R_nil _ _ _ _ _⟩, ⟨by (with_reducible repeat (first | refine blk_drewN ?_ _ | refine blk_drew ?_ | refine blk_alloc ?_ _)); refine blk_far ?_ NB441_453.out _; (with_reducible repeat (first | refine blk_drewN ?_ _ | refine blk_drew ?_ | refine blk_alloc ?_ _)); refine blk_far ?_ NB441_453.out _; (with_reducible repeat (first | refine blk_drewN ?_ _ | refine blk_drew ?_ | refine blk_alloc ?_ _)); exact BK441.out⟩, ⟨by (with_reducible repeat (first | refine blk_drewN ?_ _ | refine blk_drew ?_ | refine blk_alloc ?_ _)); refine blk_put (cs := #[.slice Ao19 t450.length co19, .slice none 0 0]) ?_ 1 _ rfl; (with_reducible repeat (first | refine blk_drewN ?_ _ | refine blk_drew ?_ | refine blk_alloc ?_ _)); refine blk_put (cs := #[.slice none 0 0, .slice none 0 0]) ?_ 0 _ rfl; (with_reducible repeat (first | refine blk_drewN ?_ _ | refine blk_drew ?_ | refine blk_alloc ?_ _)); exact BK453.out⟩, ⟨vu (Kd.V_mono (Kd.V_far (p := ⟨gb453, 1, none⟩) (Kd.V_far (p := ⟨gb453, 0, none⟩) HVa.out (fun _ hk => hk.2) (.slice Ao19 t450.length co19)) (fun _ hk => hk.2) (.slice none 0 0)) (fun _ hk => ⟨hk.1.1, (by simp [Value.ownBlock]), hk.2⟩))⟩, ⟨vu (Kd.V_mono (Kd.V_far (p := ⟨gb453, 1, none⟩) (Kd.V_far (p := ⟨gb453, 0, none⟩) HL449_0.out (fun _ hk => hk.2) (.slice Ao19 t450.length co19)) (fun _ hk => hk.2) (.slice none 0 0)) (fun _ hk => ⟨(by simp [Value.ownBlock]), hk.2⟩))⟩, ⟨z21_6⟩⟩
           case round =>
            clear H'
            obtain ⟨x32_3, x00_3, u00, rfl, HA, HK3, HO_3, HO_4, HO_15, HO_21, HO_01, HO_00, BK441, BK453, HVa, HVb, HB⟩ := hrel
            cases gk with
            | zero => exact absurd HA.out (by simp [impl_scene_all.l2])
            | succ k3 =>
             have H := HA.out
             clear HA
             simp only [impl_scene_all.l2] at H
             by_cases c23 : x32_3 < ((rd_L11 t442 x23_2).length : Int)
             ·rw [if_pos c23] at H
              have c23b0 : decide (x32_3 < ((rd_L11 t442 x23_2).length : Int)) = true := decide_eq_true c23
              clear c23
              by_cases c24 : 0 ≤ x32_3
              ·rw [if_pos c24] at H
               have c24b0 : decide (0 ≤ x32_3) = true := decide_eq_true c24
               clear c24
               by_cases c25 : x32_3 < ((rd_L11 t442 x23_2).length : Int)
               ·rw [if_pos c25] at H
                have c25b0 : decide (x32_3 < ((rd_L11 t442 x23_2).length : Int)) = true := decide_eq_true c25
                clear c25
                replace H := Option.bind_eq_some_iff.mp H
                obtain ⟨t455, A260, H⟩ := H
                replace H : (if x00_3.length < 5864062014805 then (impl_scene_all.l2 k3 t442 x4_2 (rd_L5 t445 x17_1) t445 (t445.length : Int) x17_1 t442 (t442.length : Int) x23_2 (rd_L11 t442 x23_2) ((rd_L11 t442 x23_2).length : Int) (wrap64 (x32_3 + 1)) l0_0 l0_1 l0_2 t450 (x00_3 ++ [t455])) else (none)) = some r := H
                have A26 := am_ A260
                clear A260
                by_cases c27 : x00_3.length < 5864062014805
                ·rw [if_pos c27] at H
                 have LMc27 := am_ c27
                 clear c27
                 obtain ⟨y458, hy458⟩ : ∃ y_ : List (List Int), y_ = (x00_3 ++ [t455]) := ⟨_, rfl⟩
                 replace H : (impl_scene_all.l2 k3 t442 x4_2 (rd_L5 t445 x17_1) t445 (t445.length : Int) x17_1 t442 (t442.length : Int) x23_2 (rd_L11 t442 x23_2) ((rd_L11 t442 x23_2).length : Int) (wrap64 (x32_3 + 1)) l0_0 l0_1 l0_2 t450 y458) = some r := by first | (rw [hy458]; with_reducible exact H) | (have H2_ := (Option.bind_some _ _).symm.trans H; rw [hy458]; with_reducible exact H2_) | (have H2_ := (Option.bind_some _ _).symm.trans H; with_reducible exact H2_) | with_reducible exact H | (rw [hy458]; exact H) | exact H
                 have Ny458 := am_ hy458
                 clear hy458
                 have H' := am_ H
                 clear H
                 have p454 : 0 ≤ (x32_3 : Int) := of_decide_eq_true z21_2
                 have q454 : x32_3 < ((rd_L11 t442 x23_2).length : Int) := of_decide_eq_true z21_2
                 obtain ⟨ad454, A454_0, c454_0, e454, hx454_0, hl454_0, hi454_0⟩ := at_L5 (Kd.V_reads' (vu HVb.out)).2.2 x32_3 p454 q454
                 cases e454
                 have HR454_0 := am_ hi454_0
                 have HC454_0 := am_ hl454_0
                 clear hi454_0 hl454_0
                 replace p454 := eq_true p454
                 replace q454 := eq_true q454
                 try go_wp2
                 replace HO_3 := am_ (Kd.N_drew HO_3.out)
                 replace HO_4 := am_ (Kd.N_drew HO_4.out)
                 replace HO_15 := am_ (Kd.N_drew HO_15.out)
                 replace HO_21 := am_ (Kd.N_drew HO_21.out)
                 replace HO_01 := am_ (Kd.R_drew HO_01.out)
                 replace HO_00 := am_ (Kd.N_drew HO_00.out)
                 replace BK441 := am_ (blk_drew BK441.out)
                 replace BK453 := am_ (blk_drew BK453.out)
                 replace HVa := am_ (Kd.V_drew HVa.out)
                 replace HVb := am_ (Kd.V_drew HVb.out)
                 replace HR454_0 := am_ (Kd.C_drew HR454_0.out)
                 replace HB := am_ (below_drew1 HB.out)
                 refine start_ (n := 8) (S := fun w' => w'.cell? ⟨gb453, 0, none⟩ = some (.slice Ao19 t450.length co19) ∧ w'.cell? ⟨gb453, 1, none⟩ = some (u00)) (ds := [7]) #[false, false, false, false, false, false, false, false] (by kernel_rfl) rfl rfl ⟨(blk_cell BK453.out 0).trans rfl, (blk_cell BK453.out 1).trans rfl⟩ (fun hHeld => ?_); refine with_tabW impl_scene_all.tab13 impl_scene_all.bits13 (fun HT_ HW_ => ?_)
                 generalize wr.drew = w28 at HO_3 HO_4 HO_15 HO_21 HO_01 HO_00 BK441 BK453 HVa HVb HR454_0 HB hHeld ⊢
                 refine pure_ (i := 0) (N := some 36) (v := ?_) (a' := ?_) #[true, false, false, false, false, false, false, false] rfl rfl (any_of HT_.out (by kernel_rfl)) (fun _ _ _ h => h) (Or.inl ⟨by rfl, ?_⟩) ?_ ?_
                 rotate_left
                 ·intro w'
                  go_simp
                  with_reducible rfl
                 rotate_left
                 ·simp only [Act.put, List.setIfInBounds_toArray, List.set_cons_zero, List.set_cons_succ, i64_w, i32_w]
                  rfl
                 refine pure_ (i := 2) (N := some 38) (v := ?_) (a' := ?_) #[true, false, true, false, false, false, false, false] rfl rfl (any_of HT_.out (by kernel_rfl)) (fun _ _ _ h => h) (Or.inl ⟨by rfl, ?_⟩) ?_ ?_
                 rotate_left
                 ·intro w'
                  go_simp
                  with_reducible rfl
                 rotate_left
                 ·simp only [Act.put, List.setIfInBounds_toArray, List.set_cons_zero, List.set_cons_succ, i64_w, i32_w]
                  rfl
                 refine take_ (i := 1) (N := some 37) (v := ?_) (a' := ?_) #[true, true, true, false, false, false, false, false] rfl rfl (take_ofW HT_.out HW_.out (by kernel_rfl)) (fun _ _ _ h => h) (Or.inl ⟨by rfl, ?_⟩) hHeld ?_ ?_
                 rotate_left
                 ·rintro w' ⟨s0, s1⟩
                  go_simp
                  with_reducible rfl
                 rotate_left
                 ·simp only [Act.put, List.setIfInBounds_toArray, List.set_cons_zero, List.set_cons_succ, i64_w, i32_w]
                  rfl
                 refine one_ (i := 3) (N := some 39) #[true, true, true, true, false, false, false, false] rfl rfl (one_of HT_.out (by kernel_rfl)) (by decide) (fun K hK => ?_)
                 refine goes_ Try.func16 (by kernel_rfl) rfl #[.slice A454_0 (rd_L5 (rd_L11 t442 x23_2) x32_3).length c454_0] (by rfl) rfl rfl (by (try simp only [List.map_toArray, List.map_cons, List.map_nil]); first | done | rfl | (simp only [List.length_drop, List.length_take]; rfl)) ?_
                 with_reducible refine (slices_Clone_int_int_16.calls _ _ (rd_L5 (rd_L11 t442 x23_2) x32_3) t455 _ ?side1 ?side2 A26.out).mono ?_
                 (case side1 => repeat (first | exact HR454_0.out | (with_reducible refine Kd.C_alloc ?_ _) | (with_reducible refine Kd.C_drewN ?_ _) | (with_reducible refine Kd.C_drew ?_)))
                 (case side2 => exact HC454_0.out)
                 rintro e w29 ⟨v456, rfl, ho0, hb⟩
                 refine ⟨_, rfl, ?_⟩
                 replace HVa := am_ (Kd.V_elder' (vu HVa.out) (Kd.R_base ho0) hb)
                 replace HVb := am_ (Kd.V_elder' (vu HVb.out) (Kd.R_base ho0) hb)
                 have n0_ := am_ (Kd.N_elder' (nu HO_3.out) (Kd.R_base ho0) hb)
                 have n1_ := am_ (Kd.N_elder' (nu HO_4.out) (Kd.R_base ho0) hb)
                 have n2_ := am_ (Kd.N_elder' (nu HO_15.out) (Kd.R_base ho0) hb)
                 have n3_ := am_ (Kd.N_elder' (nu HO_21.out) (Kd.R_base ho0) hb)
                 have n4_ := am_ (Kd.R_elder' (ru HO_01.out) (Kd.R_base ho0) hb)
                 have n5_ := am_ (Kd.N_elder' (nu HO_00.out) (Kd.R_base ho0) hb)
                 have n6_ := am_ (Kd.R_lower (Kd.R_new' (Kd.R_newM (M := fun k_ => (w.heap.size ≤ k_)) ho0 (below_size z21_6) (fun k_ h_ => h_)) (Kd.R_lt (ru HO_01.out))) (below_size z21_6))
                 have n7_ := am_ (blk_below (bu BK441.out) hb)
                 have n8_ := am_ (blk_below (bu BK453.out) hb)
                 have n9_ := am_ (below_step z21_6 hb)
                 clear HO_3 HO_4 HO_15 HO_21 HO_01 HO_00 BK441 BK453 HB
                 have HO_3 := n0_
                 have HO_4 := n1_
                 have HO_15 := n2_
                 have HO_21 := n3_
                 have HO_01 := n4_
                 have HO_00 := n5_
                 have HO457 := n6_
                 have BK441 := n7_
                 have BK453 := n8_
                 have HB := n9_
                 clear n0_ n1_ n2_ n3_ n4_ n5_ n6_ n7_ n8_ n9_
                 (try clear hb)
                 (try clear hb2)
                 (try clear hk)
                 (try clear hi)
                 (try clear ho0)
                 obtain ⟨Ao31, co31, eo31⟩ := Kd.R_slice HO457.out
                 (first | subst eo31 | (injection eo31 with f1_ f2_ f3_; have f4_ := f1_.symm; have f5_ := f3_.symm; clear f1_ f2_ f3_; subst f4_; subst f5_))
                 refine hK.out _ _ ⟨(blk_cell BK453.out 0).trans rfl, (blk_cell BK453.out 1).trans rfl⟩ (fun hHeld => ?_)
                 clear hK K
                 refine norm_ (a' := ?_) ?_ ?_
                 rotate_left
                 ·show Act.put _ (some 39) _ = _
                  simp only [Act.put, List.setIfInBounds_toArray, List.set_cons_zero, List.set_cons_succ, i64_w, i32_w]
                  rfl
                 refine one_ (i := 4) (N := some 40) #[true, true, true, true, true, false, false, false] rfl rfl (one_of HT_.out (by kernel_rfl)) (by decide) (fun K hK => ?_)
                 refine value_ (w1 := ?_) (v := ?_) (by rfl) rfl ?_ ?_
                 rotate_left 2
                 ·go_simp
                  constructor
                  ·rfl
                  rfl
                 refine hK.out _ _ ⟨(blk_cell (blk_alloc BK453.out _) 0).trans rfl, (blk_cell (blk_alloc BK453.out _) 1).trans rfl⟩ (fun hHeld => ?_)
                 clear hK K
                 refine norm_ (a' := ?_) ?_ ?_
                 rotate_left
                 ·show Act.put _ (some 40) _ = _
                  simp only [Act.put, List.setIfInBounds_toArray, List.set_cons_zero, List.set_cons_succ, i64_w, i32_w]
                  rfl
                 refine one_ (i := 5) (N := some 41) #[true, true, true, true, true, true, false, false] rfl rfl (one_of HT_.out (by kernel_rfl)) (by decide) (fun K hK => ?_)
                 refine Kd.N_append_step (Kd.slice 3 (Kd.int .i64)) (w0 := w) w.heap.size (by rfl) (.tmp 37) (.tmp 40) 38 24 (.slice none 0 0) 24 rfl Try.underlying38 info24 rfl (by decide) (by omega) u00 x00_3 t455 [.slice Ao31 t455.length co31] (fun k_ => (w.heap.size ≤ k_) ∧ some k_ ≠ (.slice (some ad449) t442.length co13 : Value).ownBlock ∧ some k_ ≠ (u4 : Value).ownBlock ∧ some k_ ≠ (.slice (some ad448) t445.length co9 : Value).ownBlock ∧ some k_ ≠ (.slice (some ad449) t442.length co13 : Value).ownBlock ∧ some k_ ≠ (.slice Ao19 t450.length co19 : Value).ownBlock ∧ k_ ≠ gb441 ∧ k_ ≠ gb453) (fun k_ => ((fun k_ => (w.heap.size ≤ k_) ∧ some k_ ≠ (.slice (some ad449) t442.length co13 : Value).ownBlock ∧ some k_ ≠ (u4 : Value).ownBlock ∧ some k_ ≠ (.slice (some ad448) t445.length co9 : Value).ownBlock ∧ some k_ ≠ (.slice (some ad449) t442.length co13 : Value).ownBlock ∧ some k_ ≠ (.slice Ao19 t450.length co19 : Value).ownBlock ∧ k_ ≠ gb441 ∧ k_ ≠ gb453)) k_ ∧ some k_ ≠ (u00 : Value).ownBlock) rfl rfl ?aP (fun _ hk => hk) ?aF ?aO ?aB ?aS ?aL ?_
                 (case aP => exact (Kd.FK_slice_mk (Kd.R_reads' (Kd.R_mono (ok' := (fun k_ => ((fun k_ => (w.heap.size ≤ k_) ∧ some k_ ≠ (.slice (some ad449) t442.length co13 : Value).ownBlock ∧ some k_ ≠ (u4 : Value).ownBlock ∧ some k_ ≠ (.slice (some ad448) t445.length co9 : Value).ownBlock ∧ some k_ ≠ (.slice (some ad449) t442.length co13 : Value).ownBlock ∧ some k_ ≠ (.slice Ao19 t450.length co19 : Value).ownBlock ∧ k_ ≠ gb441 ∧ k_ ≠ gb453)) k_ ∧ some k_ ≠ (u00 : Value).ownBlock)) (Kd.R_types (Kd.R_types (Kd.R_apart' (Kd.R_apart' (Kd.R_apart' (Kd.R_apart' (Kd.R_apart' (HO457.out) (Kd.N_typed HO_3.out) (by decide)) (Kd.N_typed HO_4.out) (by decide)) (Kd.N_typed HO_15.out) (by decide)) (Kd.N_typed HO_21.out) (by decide)) (Kd.N_typed HO_00.out) (by decide)) BK441.out (by decide)) BK453.out (by decide)) (fun k_ hk => ⟨⟨hk.1.1.1.1.1.1.1.1.1, ⟨hk.1.1.1.1.1.1.2, ⟨hk.1.1.1.1.1.2, ⟨hk.1.1.1.1.2, ⟨hk.1.1.1.2, ⟨hk.1.1.1.1.1.1.1.2, ⟨hk.1.2, hk.2⟩⟩⟩⟩⟩⟩⟩, hk.1.1.2⟩))).2.1 (Kd.R_F (Kd.R_mono (ok' := (fun k_ => ((fun k_ => (w.heap.size ≤ k_) ∧ some k_ ≠ (.slice (some ad449) t442.length co13 : Value).ownBlock ∧ some k_ ≠ (u4 : Value).ownBlock ∧ some k_ ≠ (.slice (some ad448) t445.length co9 : Value).ownBlock ∧ some k_ ≠ (.slice (some ad449) t442.length co13 : Value).ownBlock ∧ some k_ ≠ (.slice Ao19 t450.length co19 : Value).ownBlock ∧ k_ ≠ gb441 ∧ k_ ≠ gb453)) k_ ∧ some k_ ≠ (u00 : Value).ownBlock)) (Kd.R_types (Kd.R_types (Kd.R_apart' (Kd.R_apart' (Kd.R_apart' (Kd.R_apart' (Kd.R_apart' (HO457.out) (Kd.N_typed HO_3.out) (by decide)) (Kd.N_typed HO_4.out) (by decide)) (Kd.N_typed HO_15.out) (by decide)) (Kd.N_typed HO_21.out) (by decide)) (Kd.N_typed HO_00.out) (by decide)) BK441.out (by decide)) BK453.out (by decide)) (fun k_ hk => ⟨⟨hk.1.1.1.1.1.1.1.1.1, ⟨hk.1.1.1.1.1.1.2, ⟨hk.1.1.1.1.1.2, ⟨hk.1.1.1.1.2, ⟨hk.1.1.1.2, ⟨hk.1.1.1.1.1.1.1.2, ⟨hk.1.2, hk.2⟩⟩⟩⟩⟩⟩⟩, hk.1.1.2⟩)))))
                 (case aB => exact z21_6)
                 (case aF => exact (fun k_ hk => ⟨(Nat.le_trans (below_size z21_6) hk), Kd.fresh' (Kd.N_lt (nu HO_3.out)) k_ hk, Kd.fresh' (Kd.N_lt (nu HO_4.out)) k_ hk, Kd.fresh' (Kd.N_lt (nu HO_15.out)) k_ hk, Kd.fresh' (Kd.N_lt (nu HO_21.out)) k_ hk, Kd.fresh' (Kd.R_lt (ru HO_01.out)) k_ hk, Kd.freshB (bu BK441.out) k_ hk, Kd.freshB (bu BK453.out) k_ hk⟩))
                 (case aO => exact (nu (Kd.N_mono HO_00.out (fun _ hk => ⟨hk.1.1, ⟨hk.1.2.1, ⟨hk.1.2.2.1, ⟨hk.1.2.2.2.1, ⟨hk.1.2.2.2.2.1, ⟨hk.1.2.2.2.2.2.1, ⟨hk.1.2.2.2.2.2.2.1, hk.1.2.2.2.2.2.2.2⟩⟩⟩⟩⟩⟩⟩))))
                 (case aS => exact (below_size z21_6))
                 (case aL => have := LMc27.out; omega)
                 intro v459 w30 ho hb hg hat
                 rw [← Ny458.out] at ho
                 replace HVa := am_ (Kd.V_afterv (ok := (fun k_ => some k_ ≠ (u4 : Value).ownBlock ∧ k_ ≠ gb453)) (vu (Kd.V_mono HVa.out (fun _ hk => ⟨⟨hk.1.1, hk.1.2.2⟩, hk.1.2.1⟩))) hg hat)
                 replace HVb := am_ (Kd.V_afterv (ok := (fun k_ => k_ ≠ gb453)) (vu (Kd.V_mono HVb.out (fun _ hk => ⟨hk.1.2, hk.1.1⟩))) hg hat)
                 replace HO_3 := am_ (Kd.N_afterv (ok := (fun k_ => (w.heap.size ≤ k_) ∧ some k_ ≠ (u4 : Value).ownBlock ∧ some k_ ≠ (.slice (some ad448) t445.length co9 : Value).ownBlock ∧ some k_ ≠ (.slice Ao19 t450.length co19 : Value).ownBlock ∧ some k_ ≠ (.slice Ao31 t455.length co31 : Value).ownBlock ∧ k_ ≠ gb441 ∧ k_ ≠ gb453)) (nu (Kd.N_mono HO_3.out (fun _ hk => ⟨⟨hk.1.1, ⟨hk.1.2.1, ⟨hk.1.2.2.1, ⟨hk.1.2.2.2.1, ⟨hk.2, ⟨hk.1.2.2.2.2.2.1, hk.1.2.2.2.2.2.2⟩⟩⟩⟩⟩⟩, hk.1.2.2.2.2.1⟩))) hg hat)
                 replace HO_4 := am_ (Kd.N_afterv (ok := (fun k_ => (w.heap.size ≤ k_) ∧ some k_ ≠ (.slice (some ad449) t442.length co13 : Value).ownBlock ∧ some k_ ≠ (.slice (some ad448) t445.length co9 : Value).ownBlock ∧ some k_ ≠ (.slice (some ad449) t442.length co13 : Value).ownBlock ∧ some k_ ≠ (.slice Ao19 t450.length co19 : Value).ownBlock ∧ some k_ ≠ (.slice Ao31 t455.length co31 : Value).ownBlock ∧ k_ ≠ gb441 ∧ k_ ≠ gb453)) (nu (Kd.N_mono HO_4.out (fun _ hk => ⟨⟨hk.1.1, ⟨hk.1.2.1, ⟨hk.1.2.2.1, ⟨hk.1.2.2.2.1, ⟨hk.1.2.2.2.2.1, ⟨hk.2, ⟨hk.1.2.2.2.2.2.2.1, hk.1.2.2.2.2.2.2.2⟩⟩⟩⟩⟩⟩⟩, hk.1.2.2.2.2.2.1⟩))) hg hat)
                 replace HO_15 := am_ (Kd.N_afterv (ok := (fun k_ => (w.heap.size ≤ k_) ∧ some k_ ≠ (.slice (some ad449) t442.length co13 : Value).ownBlock ∧ some k_ ≠ (u4 : Value).ownBlock ∧ some k_ ≠ (.slice (some ad449) t442.length co13 : Value).ownBlock ∧ some k_ ≠ (.slice Ao19 t450.length co19 : Value).ownBlock ∧ some k_ ≠ (.slice Ao31 t455.length co31 : Value).ownBlock ∧ k_ ≠ gb441 ∧ k_ ≠ gb453)) (nu (Kd.N_mono HO_15.out (fun _ hk => ⟨⟨hk.1.1, ⟨hk.1.2.1, ⟨hk.1.2.2.1, ⟨hk.1.2.2.2.1, ⟨hk.1.2.2.2.2.1, ⟨hk.2, ⟨hk.1.2.2.2.2.2.2.1, hk.1.2.2.2.2.2.2.2⟩⟩⟩⟩⟩⟩⟩, hk.1.2.2.2.2.2.1⟩))) hg hat)
                 replace HO_21 := am_ (Kd.N_afterv (ok := (fun k_ => (w.heap.size ≤ k_) ∧ some k_ ≠ (u4 : Value).ownBlock ∧ some k_ ≠ (.slice (some ad448) t445.length co9 : Value).ownBlock ∧ some k_ ≠ (.slice Ao19 t450.length co19 : Value).ownBlock ∧ some k_ ≠ (.slice Ao31 t455.length co31 : Value).ownBlock ∧ k_ ≠ gb441 ∧ k_ ≠ gb453)) (nu (Kd.N_mono HO_21.out (fun _ hk => ⟨⟨hk.1.1, ⟨hk.1.2.1, ⟨hk.1.2.2.1, ⟨hk.1.2.2.2.1, ⟨hk.2, ⟨hk.1.2.2.2.2.2.1, hk.1.2.2.2.2.2.2⟩⟩⟩⟩⟩⟩, hk.1.2.2.2.2.1⟩))) hg hat)
                 replace HO_01 := am_ (Kd.R_over' (ru HO_01.out) (Kd.N_typed (nu HO_00.out)) (by decide) hg)
                 replace BK441 := am_ (blk_grown (bu BK441.out) hg (Kd.N_ne HO_00.out BK441.out (by decide)))
                 replace BK453 := am_ (blk_grown (bu BK453.out) hg (Kd.N_ne HO_00.out BK453.out (by decide)))
                 replace HB := am_ (hb)
                 have HO460 := am_ (ho)
                 clear HO_00 HO457 ho hb hg hat
                 obtain ⟨Ao32, co32, eo32⟩ := Kd.N_slice HO460.out
                 (first | subst eo32 | (injection eo32 with f1_ f2_ f3_; have f4_ := f1_.symm; have f5_ := f3_.symm; clear f1_ f2_ f3_; subst f4_; subst f5_))
                 refine hK.out _ _ ⟨(blk_cell BK453.out 0).trans rfl, (blk_cell BK453.out 1).trans rfl⟩ (fun hHeld => ?_)
                 clear hK K
                 refine norm_ (a' := ?_) ?_ ?_
                 rotate_left
                 ·show Act.put _ (some 41) _ = _
                  simp only [Act.put, List.setIfInBounds_toArray, List.set_cons_zero, List.set_cons_succ, i64_w, i32_w]
                  rfl
                 refine pure_ (i := 6) (N := some 42) (v := ?_) (a' := ?_) #[true, true, true, true, true, true, true, false] rfl rfl (any_of HT_.out (by kernel_rfl)) (fun _ _ _ h => h) (Or.inl ⟨by rfl, ?_⟩) ?_ ?_
                 rotate_left
                 ·intro w'
                  go_simp
                  with_reducible rfl
                 rotate_left
                 ·simp only [Act.put, List.setIfInBounds_toArray, List.set_cons_zero, List.set_cons_succ, i64_w, i32_w]
                  rfl
                 refine last_ (i := 7) (N := none) #[true, true, true, true, true, true, true, true] rfl rfl (one_of HT_.out (by kernel_rfl)) (by decide) (fun K hK => ?_)
                 have hs33 : w30.cell? ⟨gb453, 1, none⟩ = some (u00) := (blk_cell BK453.out 1).trans rfl
                 have hfs33 := blk_frozen BK453.out 1
                 have hns33_0 := NB441_453.out
                 have hms33_0 := NB453_441.out
                 refine skip_ (w1 := ?_) (by rfl) rfl ?_ ?_
                 rotate_left
                 ·go_simp
                  rfl
                 refine hK.out _ _ ?_
                 clear hK K
                 refine done_ (done_of HT_.out (by kernel_rfl)) ?_
                 try go_wp2
                 go_roundg k3
                 case measure => have := HK1.out; have := HK2.out; have := HK3.out; omega
                 case rel => exact ⟨(wrap64 (x32_3 + 1)), (y458), (.slice Ao32 y458.length co32), z21_1, H', ⟨by have := HK1.out; have := HK2.out; have := HK3.out; omega⟩, ⟨nu (Kd.N_mono (Kd.N_far (p := ⟨gb453, 1, none⟩) (Kd.N_mono HO_3.out (fun k_ hk => (⟨hk, hk.1.2.2.2.2.2.2⟩ : _ ∧ k_ ≠ gb453))) (fun _ hk => hk.2) (.slice Ao32 y458.length co32)) (fun _ hk => ⟨hk.1.1.1, ⟨hk.1.1.2.1, ⟨hk.1.1.2.2.1, ⟨hk.1.1.2.2.2.1, ⟨hk.1.2, ⟨hk.1.1.2.2.2.2.2.1, hk.1.1.2.2.2.2.2.2⟩⟩⟩⟩⟩⟩))⟩, ⟨nu (Kd.N_mono (Kd.N_far (p := ⟨gb453, 1, none⟩) (Kd.N_mono HO_4.out (fun k_ hk => (⟨hk, hk.1.2.2.2.2.2.2.2⟩ : _ ∧ k_ ≠ gb453))) (fun _ hk => hk.2) (.slice Ao32 y458.length co32)) (fun _ hk => ⟨hk.1.1.1, ⟨hk.1.1.2.1, ⟨hk.1.1.2.2.1, ⟨hk.1.1.2.2.2.1, ⟨hk.1.1.2.2.2.2.1, ⟨hk.1.2, ⟨hk.1.1.2.2.2.2.2.2.1, hk.1.1.2.2.2.2.2.2.2⟩⟩⟩⟩⟩⟩⟩))⟩, ⟨nu (Kd.N_mono (Kd.N_far (p := ⟨gb453, 1, none⟩) (Kd.N_mono HO_15.out (fun k_ hk => (⟨hk, hk.1.2.2.2.2.2.2.2⟩ : _ ∧ k_ ≠ gb453))) (fun _ hk => hk.2) (.slice Ao32 y458.length co32)) (fun _ hk => ⟨hk.1.1.1, ⟨hk.1.1.2.1, ⟨hk.1.1.2.2.1, ⟨hk.1.1.2.2.2.1, ⟨hk.1.1.2.2.2.2.1, ⟨hk.1.2, ⟨hk.1.1.2.2.2.2.2.2.1, hk.1.1.2.2.2.2.2.2.2⟩⟩⟩⟩⟩⟩⟩))⟩, ⟨nu (Kd.N_mono (Kd.N_far (p := ⟨gb453, 1, none⟩) (Kd.N_mono HO_21.out (fun k_ hk => (⟨hk, hk.1.2.2.2.2.2.2⟩ : _ ∧ k_ ≠ gb453))) (fun _ hk => hk.2) (.slice Ao32 y458.length co32)) (fun _ hk => ⟨hk.1.1.1, ⟨hk.1.1.2.1, ⟨hk.1.1.2.2.1, ⟨hk.1.1.2.2.2.1, ⟨hk.1.2, ⟨hk.1.1.2.2.2.2.2.1, hk.1.1.2.2.2.2.2.2⟩⟩⟩⟩⟩⟩))⟩, ⟨ru (Kd.R_mono (Kd.R_far (p := ⟨gb453, 1, none⟩) (Kd.R_types HO_01.out BK453.out (by decide)) (fun _ hk => hk.2) (.slice Ao32 y458.length co32)) (fun _ hk => hk.1.1))⟩, ⟨nu (Kd.N_mono (Kd.N_far (p := ⟨gb453, 1, none⟩) (Kd.N_mono HO460.out (fun k_ hk => (⟨hk, hk.2.2.2.2.2.2.2⟩ : _ ∧ k_ ≠ gb453))) (fun _ hk => hk.2) (.slice Ao32 y458.length co32)) (fun _ hk => ⟨hk.1.1, ⟨hk.1.2.1, ⟨hk.1.2.2.1, ⟨hk.1.2.2.2.1, ⟨hk.1.2.2.2.2.1, ⟨hk.1.2.2.2.2.2.1, ⟨hk.1.2.2.2.2.2.2.1, hk.1.2.2.2.2.2.2.2⟩⟩⟩⟩⟩⟩⟩))⟩, ⟨by (with_reducible repeat (first | refine blk_drewN ?_ _ | refine blk_drew ?_ | refine blk_alloc ?_ _)); refine blk_far ?_ NB441_453.out _; (with_reducible repeat (first | refine blk_drewN ?_ _ | refine blk_drew ?_ | refine blk_alloc ?_ _)); exact BK441.out⟩, ⟨by (with_reducible repeat (first | refine blk_drewN ?_ _ | refine blk_drew ?_ | refine blk_alloc ?_ _)); refine blk_put (cs := #[.slice Ao19 t450.length co19, u00]) ?_ 1 _ rfl; (with_reducible repeat (first | refine blk_drewN ?_ _ | refine blk_drew ?_ | refine blk_alloc ?_ _)); exact BK453.out⟩, ⟨vu (Kd.V_mono (Kd.V_far (p := ⟨gb453, 1, none⟩) HVa.out (fun _ hk => hk.1.2) (.slice Ao32 y458.length co32)) (fun _ hk => ⟨hk.1.1, hk.2, hk.1.2⟩))⟩, ⟨vu (Kd.V_mono (Kd.V_far (p := ⟨gb453, 1, none⟩) HVb.out (fun _ hk => hk.1) (.slice Ao32 y458.length co32)) (fun _ hk => ⟨hk.2, hk.1⟩))⟩, ⟨z21_6⟩⟩
                rw [if_neg c27] at H
                exact absurd H (by simp)
               rw [if_neg c25] at H
               exact absurd H (by simp)
              rw [if_neg c24] at H
              exact absurd H (by simp)
             rw [if_neg c23] at H
             have c23b0 : decide (x32_3 < ((rd_L11 t442 x23_2).length : Int)) = false := decide_eq_false c23
             clear c23
             replace H := Option.bind_eq_some_iff.mp H
             obtain ⟨t461, A340, H⟩ := H
             replace H : (if t461 = true then (if x4_2.length < 2932031007402 then (impl_scene_all.l1 k3 t442 (x4_2 ++ [(⟨t450, x00_3⟩ : S40)]) (rd_L5 t445 x17_1) t445 (t445.length : Int) x17_1 t442 (t442.length : Int) (wrap64 (x23_2 + 1)) l0_0 l0_1 l0_2) else (none)) else (impl_scene_all.l1 k3 t442 x4_2 (rd_L5 t445 x17_1) t445 (t445.length : Int) x17_1 t442 (t442.length : Int) (wrap64 (x23_2 + 1)) l0_0 l0_1 l0_2)) = some r := H
             have A34 := am_ A340
             clear A340
             by_cases c35 : t461 = true
             ·subst c35
              have H1 : (if x4_2.length < 2932031007402 then (impl_scene_all.l1 k3 t442 (x4_2 ++ [(⟨t450, x00_3⟩ : S40)]) (rd_L5 t445 x17_1) t445 (t445.length : Int) x17_1 t442 (t442.length : Int) (wrap64 (x23_2 + 1)) l0_0 l0_1 l0_2) else (none)) = some r := by rw [if_pos rfl] at H; exact H
              clear H
              have H := H1
              clear H1
              by_cases c36 : x4_2.length < 2932031007402
              ·rw [if_pos c36] at H
               have LMc36 := am_ c36
               clear c36
               obtain ⟨y462, hy462⟩ : ∃ y_ : List (S40), y_ = (x4_2 ++ [(⟨t450, x00_3⟩ : S40)]) := ⟨_, rfl⟩
               replace H : (impl_scene_all.l1 k3 t442 y462 (rd_L5 t445 x17_1) t445 (t445.length : Int) x17_1 t442 (t442.length : Int) (wrap64 (x23_2 + 1)) l0_0 l0_1 l0_2) = some r := by first | (rw [hy462]; with_reducible exact H) | (have H2_ := (Option.bind_some _ _).symm.trans H; rw [hy462]; with_reducible exact H2_) | (have H2_ := (Option.bind_some _ _).symm.trans H; with_reducible exact H2_) | with_reducible exact H | (rw [hy462]; exact H) | exact H
               have Ny462 := am_ hy462
               clear hy462
               have H' := am_ H
               clear H
               have hnb37 := NB441_453.out
               have hnc37 := NB453_441.out
               have hcz38_0 := cf0 BK441.out
               have hcz38_1 := cf1 BK441.out
               have hcz38_2 := cf2 BK441.out
               have hfz38_0 := blk_frozen BK441.out 0
               have hfz38_1 := blk_frozen BK441.out 1
               have hfz38_2 := blk_frozen BK441.out 2
               have hcz39_0 := cf0 BK453.out
               have hcz39_1 := cf1 BK453.out
               have hfz39_0 := blk_frozen BK453.out 0
               have hfz39_1 := blk_frozen BK453.out 1
               obtain ⟨Ao40, co40, eo40⟩ := Kd.N_slice HO_00.out
               subst eo40
               go_wp2_with (first | ((with_reducible refine gate_callee (f := 38) rfl ?_); refine goesL_ (some 46) rfl rfl Try.func38 (by kernel_rfl) rfl #[.agg #[.slice A0_0 l0_0.length c0_0, .slice A0_1 l0_1.length c0_1, .slice A0_2 l0_2.length c0_2], .agg #[.slice Ao19 t450.length co19, .slice Ao40 x00_3.length co40]] rfl (by (try simp only [List.map_toArray, List.map_cons, List.map_nil]); first | done | rfl | (simp only [List.length_drop, List.length_take]; rfl)) ?_; (with_reducible refine (impl_scene_ok.calls k3 _ _ l0_0 _ _ l0_1 _ _ l0_2 _ _ t450 _ _ x00_3 true _ ?side1 ?side2 ?side3 ?side4 ?side5 ?side6 ?side7 ?side8 ?side9 ?side10 A34.out).mono ?_); (case side1 => repeat (first | exact (Kd.C_below HR0_0.out HB.out) | (with_reducible refine Kd.C_alloc ?_ _) | (with_reducible refine Kd.C_drewN ?_ _) | (with_reducible refine Kd.C_drew ?_))); (case side2 => exact HC0_0.out); (case side3 => repeat (first | exact (Kd.C_below HR0_1.out HB.out) | (with_reducible refine Kd.C_alloc ?_ _) | (with_reducible refine Kd.C_drewN ?_ _) | (with_reducible refine Kd.C_drew ?_))); (case side4 => exact HC0_1.out); (case side5 => repeat (first | exact (Kd.C_below HR0_2.out HB.out) | (with_reducible refine Kd.C_alloc ?_ _) | (with_reducible refine Kd.C_drewN ?_ _) | (with_reducible refine Kd.C_drew ?_))); (case side6 => exact HC0_2.out); (case side7 => repeat (first | exact (Kd.R_reads' HO_01.out).2.2 | (with_reducible refine Kd.C_alloc ?_ _) | (with_reducible refine Kd.C_drewN ?_ _) | (with_reducible refine Kd.C_drew ?_))); (case side8 => exact (Kd.R_reads' HO_01.out).2.1); (case side9 => repeat (first | exact (Kd.N_reads' HO_00.out).2.2 | (with_reducible refine Kd.C_alloc ?_ _) | (with_reducible refine Kd.C_drewN ?_ _) | (with_reducible refine Kd.C_drew ?_))); (case side10 => exact (Kd.N_reads' HO_00.out).2.1); rintro e w41 ⟨rfl, hb⟩; refine ⟨_, rfl, ?_⟩; replace HVa := am_ (Kd.V_below (vu HVa.out) hb); replace HO_3 := am_ (Kd.N_below (nu HO_3.out) hb); replace HO_4 := am_ (Kd.N_below (nu HO_4.out) hb); replace HO_15 := am_ (Kd.N_below (nu HO_15.out) hb); replace HO_21 := am_ (Kd.N_below (nu HO_21.out) hb); replace HO_01 := am_ (Kd.R_below (ru HO_01.out) hb); replace HO_00 := am_ (Kd.N_below (nu HO_00.out) hb); replace BK441 := am_ (blk_below (bu BK441.out) hb); replace BK453 := am_ (blk_below (bu BK453.out) hb); replace HB := am_ (below_step z21_6 hb); (try clear hb); (try clear hb2); (try clear hk); (try clear hi); have hcz42_0 := cf0 BK453.out; have hcz42_1 := cf1 BK453.out; have hfz42_0 := blk_frozen BK453.out 0; have hfz42_1 := blk_frozen BK453.out 1) | ((with_reducible refine gate_builtin (b := .append) (xs := #[.tmp 47, .tmp 49]) rfl ?_); at_builtin; refine Kd.N_append k40 (w0 := w) w.heap.size rfl (.tmp 47) (.tmp 49) 35 40 (.agg #[(.slice none 0 0), (.slice none 0 0)]) 48 rfl Try.underlying35 info40 rfl (by decide) (by omega) u4 x4_2 (⟨t450, x00_3⟩ : S40) [.slice Ao19 t450.length co19, .slice Ao40 x00_3.length co40] (fun k_ => (w.heap.size ≤ k_) ∧ some k_ ≠ (.slice (some ad449) t442.length co13 : Value).ownBlock ∧ some k_ ≠ (.slice (some ad448) t445.length co9 : Value).ownBlock ∧ some k_ ≠ (.slice (some ad449) t442.length co13 : Value).ownBlock ∧ k_ ≠ gb441 ∧ k_ ≠ gb453) (fun k_ => ((fun k_ => (w.heap.size ≤ k_) ∧ some k_ ≠ (.slice (some ad449) t442.length co13 : Value).ownBlock ∧ some k_ ≠ (.slice (some ad448) t445.length co9 : Value).ownBlock ∧ some k_ ≠ (.slice (some ad449) t442.length co13 : Value).ownBlock ∧ k_ ≠ gb441 ∧ k_ ≠ gb453)) k_ ∧ some k_ ≠ (u4 : Value).ownBlock) rfl rfl ?aP (fun _ hk => hk) ?aF ?aO ?aB ?aS ?aL ?_; (case aP => exact (k40_mkF _ _ (⟨t450, x00_3⟩ : S40) (Kd.R_reads' (Kd.R_mono (ok' := (fun k_ => ((fun k_ => (w.heap.size ≤ k_) ∧ some k_ ≠ (.slice (some ad449) t442.length co13 : Value).ownBlock ∧ some k_ ≠ (.slice (some ad448) t445.length co9 : Value).ownBlock ∧ some k_ ≠ (.slice (some ad449) t442.length co13 : Value).ownBlock ∧ k_ ≠ gb441 ∧ k_ ≠ gb453)) k_ ∧ some k_ ≠ (u4 : Value).ownBlock)) (Kd.R_types (Kd.R_types (Kd.R_apart' (Kd.R_apart' (Kd.R_apart' (Kd.R_apart' (HO_01.out) (Kd.N_typed HO_3.out) (by decide)) (Kd.N_typed HO_15.out) (by decide)) (Kd.N_typed HO_21.out) (by decide)) (Kd.N_typed HO_4.out) (by decide)) BK441.out (by decide)) BK453.out (by decide)) (fun k_ hk => ⟨⟨hk.1.1.1.1.1.1, ⟨hk.1.1.1.1.1.2, ⟨hk.1.1.1.1.2, ⟨hk.1.1.1.2, ⟨hk.1.2, hk.2⟩⟩⟩⟩⟩, hk.1.1.2⟩))).2.1 (Kd.R_F (Kd.R_mono (ok' := (fun k_ => ((fun k_ => (w.heap.size ≤ k_) ∧ some k_ ≠ (.slice (some ad449) t442.length co13 : Value).ownBlock ∧ some k_ ≠ (.slice (some ad448) t445.length co9 : Value).ownBlock ∧ some k_ ≠ (.slice (some ad449) t442.length co13 : Value).ownBlock ∧ k_ ≠ gb441 ∧ k_ ≠ gb453)) k_ ∧ some k_ ≠ (u4 : Value).ownBlock)) (Kd.R_types (Kd.R_types (Kd.R_apart' (Kd.R_apart' (Kd.R_apart' (Kd.R_apart' (HO_01.out) (Kd.N_typed HO_3.out) (by decide)) (Kd.N_typed HO_15.out) (by decide)) (Kd.N_typed HO_21.out) (by decide)) (Kd.N_typed HO_4.out) (by decide)) BK441.out (by decide)) BK453.out (by decide)) (fun k_ hk => ⟨⟨hk.1.1.1.1.1.1, ⟨hk.1.1.1.1.1.2, ⟨hk.1.1.1.1.2, ⟨hk.1.1.1.2, ⟨hk.1.2, hk.2⟩⟩⟩⟩⟩, hk.1.1.2⟩))) (Kd.N_reads' (Kd.N_mono (ok' := (fun k_ => ((fun k_ => (w.heap.size ≤ k_) ∧ some k_ ≠ (.slice (some ad449) t442.length co13 : Value).ownBlock ∧ some k_ ≠ (.slice (some ad448) t445.length co9 : Value).ownBlock ∧ some k_ ≠ (.slice (some ad449) t442.length co13 : Value).ownBlock ∧ k_ ≠ gb441 ∧ k_ ≠ gb453)) k_ ∧ some k_ ≠ (u4 : Value).ownBlock)) (HO_00.out) (fun k_ hk => ⟨⟨hk.1, ⟨hk.2.1, ⟨hk.2.2.2.1, ⟨hk.2.2.2.2.1, ⟨hk.2.2.2.2.2.2.1, hk.2.2.2.2.2.2.2⟩⟩⟩⟩⟩, hk.2.2.1⟩))).2.1 (Kd.N_F (Kd.N_mono (ok' := (fun k_ => ((fun k_ => (w.heap.size ≤ k_) ∧ some k_ ≠ (.slice (some ad449) t442.length co13 : Value).ownBlock ∧ some k_ ≠ (.slice (some ad448) t445.length co9 : Value).ownBlock ∧ some k_ ≠ (.slice (some ad449) t442.length co13 : Value).ownBlock ∧ k_ ≠ gb441 ∧ k_ ≠ gb453)) k_ ∧ some k_ ≠ (u4 : Value).ownBlock)) (HO_00.out) (fun k_ hk => ⟨⟨hk.1, ⟨hk.2.1, ⟨hk.2.2.2.1, ⟨hk.2.2.2.2.1, ⟨hk.2.2.2.2.2.2.1, hk.2.2.2.2.2.2.2⟩⟩⟩⟩⟩, hk.2.2.1⟩))))); (case aB => exact z21_6); (case aF => exact (fun k_ hk => ⟨(Nat.le_trans (below_size z21_6) hk), Kd.fresh' (Kd.N_lt (nu HO_3.out)) k_ hk, Kd.fresh' (Kd.N_lt (nu HO_15.out)) k_ hk, Kd.fresh' (Kd.N_lt (nu HO_21.out)) k_ hk, Kd.freshB (bu BK441.out) k_ hk, Kd.freshB (bu BK453.out) k_ hk⟩)); (case aO => exact (nu (Kd.N_mono HO_4.out (fun _ hk => ⟨hk.1, ⟨hk.2.1, ⟨hk.2.2.1, ⟨hk.2.2.2.1, ⟨hk.2.2.2.2.2.2.1, hk.2.2.2.2.2.2.2⟩⟩⟩⟩⟩)))); (case aS => exact (below_size z21_6)); (case aL => have := LMc36.out; omega); intro v463 w43 ho hb hg hat; replace HVa := am_ (Kd.V_afterv (ok := (fun k_ => True)) (vu (Kd.V_mono HVa.out (fun _ hk => ⟨trivial, hk.1⟩))) hg hat); rw [← Ny462.out] at ho; replace HO_3 := am_ (Kd.N_afterv (ok := (fun k_ => (w.heap.size ≤ k_) ∧ some k_ ≠ (.slice (some ad448) t445.length co9 : Value).ownBlock ∧ some k_ ≠ (.slice Ao19 t450.length co19 : Value).ownBlock ∧ some k_ ≠ (.slice Ao40 x00_3.length co40 : Value).ownBlock ∧ k_ ≠ gb441 ∧ k_ ≠ gb453)) (nu (Kd.N_mono HO_3.out (fun _ hk => ⟨⟨hk.1, ⟨hk.2.2.1, ⟨hk.2.2.2.1, ⟨hk.2.2.2.2.1, ⟨hk.2.2.2.2.2.1, hk.2.2.2.2.2.2⟩⟩⟩⟩⟩, hk.2.1⟩))) hg hat); replace HO_15 := am_ (Kd.N_afterv (ok := (fun k_ => (w.heap.size ≤ k_) ∧ some k_ ≠ (.slice (some ad449) t442.length co13 : Value).ownBlock ∧ some k_ ≠ (.slice (some ad449) t442.length co13 : Value).ownBlock ∧ some k_ ≠ (.slice Ao19 t450.length co19 : Value).ownBlock ∧ some k_ ≠ (.slice Ao40 x00_3.length co40 : Value).ownBlock ∧ k_ ≠ gb441 ∧ k_ ≠ gb453)) (nu (Kd.N_mono HO_15.out (fun _ hk => ⟨⟨hk.1, ⟨hk.2.1, ⟨hk.2.2.2.1, ⟨hk.2.2.2.2.1, ⟨hk.2.2.2.2.2.1, ⟨hk.2.2.2.2.2.2.1, hk.2.2.2.2.2.2.2⟩⟩⟩⟩⟩⟩, hk.2.2.1⟩))) hg hat); replace HO_21 := am_ (Kd.N_afterv (ok := (fun k_ => (w.heap.size ≤ k_) ∧ some k_ ≠ (.slice (some ad448) t445.length co9 : Value).ownBlock ∧ some k_ ≠ (.slice Ao19 t450.length co19 : Value).ownBlock ∧ some k_ ≠ (.slice Ao40 x00_3.length co40 : Value).ownBlock ∧ k_ ≠ gb441 ∧ k_ ≠ gb453)) (nu (Kd.N_mono HO_21.out (fun _ hk => ⟨⟨hk.1, ⟨hk.2.2.1, ⟨hk.2.2.2.1, ⟨hk.2.2.2.2.1, ⟨hk.2.2.2.2.2.1, hk.2.2.2.2.2.2⟩⟩⟩⟩⟩, hk.2.1⟩))) hg hat); replace BK441 := am_ (blk_grown (bu BK441.out) hg (Kd.N_ne HO_4.out BK441.out (by decide))); replace BK453 := am_ (blk_grown (bu BK453.out) hg (Kd.N_away HO_4.out (fun _ hk => hk.2.2.2.2.2.2.2))); replace HB := am_ (hb); have HO464 := am_ (ho); clear HO_4 HO_01 HO_00; clear ho hb hg hat))
               go_roundg k3
               case measure => have := HK1.out; have := HK2.out; have := HK3.out; omega
               case rel => exact ⟨(y462), (wrap64 (x23_2 + 1)), z21_1, H', ⟨by have := HK1.out; have := HK2.out; have := HK3.out; omega⟩, ⟨nu (Kd.N_mono HO_3.out (fun _ hk => ⟨hk.1.1, ⟨hk.2, ⟨hk.1.2.1, hk.1.2.2.2.2.1⟩⟩⟩))⟩, ⟨nu (Kd.N_mono HO464.out (fun _ hk => ⟨hk.1, ⟨hk.2.1, ⟨hk.2.2.1, ⟨hk.2.2.2.1, hk.2.2.2.2.1⟩⟩⟩⟩))⟩, ⟨nu (Kd.N_mono HO_15.out (fun _ hk => ⟨hk.1.1, ⟨hk.1.2.1, ⟨hk.2, ⟨hk.1.2.2.1, hk.1.2.2.2.2.2.1⟩⟩⟩⟩))⟩, ⟨nu (Kd.N_mono HO_21.out (fun _ hk => ⟨hk.1.1, ⟨hk.2, ⟨hk.1.2.1, hk.1.2.2.2.2.1⟩⟩⟩))⟩, ⟨bu BK441.out⟩, ⟨vu (Kd.V_mono HVa.out (fun _ hk => hk.2))⟩, ⟨z21_6⟩⟩
              rw [if_neg c36] at H
              exact absurd H (by simp)
             replace c35 := Bool.eq_false_iff.mpr c35
             subst c35
             have H1 : (impl_scene_all.l1 k3 t442 x4_2 (rd_L5 t445 x17_1) t445 (t445.length : Int) x17_1 t442 (t442.length : Int) (wrap64 (x23_2 + 1)) l0_0 l0_1 l0_2) = some r := by rw [if_neg (show ¬ (false = true) by decide)] at H; exact H
             clear H
             have H := H1
             clear H1
             have H' := am_ H
             clear H
             have hnb44 := NB441_453.out
             have hnc44 := NB453_441.out
             have hcz45_0 := cf0 BK441.out
             have hcz45_1 := cf1 BK441.out
             have hcz45_2 := cf2 BK441.out
             have hfz45_0 := blk_frozen BK441.out 0
             have hfz45_1 := blk_frozen BK441.out 1
             have hfz45_2 := blk_frozen BK441.out 2
             have hcz46_0 := cf0 BK453.out
             have hcz46_1 := cf1 BK453.out
             have hfz46_0 := blk_frozen BK453.out 0
             have hfz46_1 := blk_frozen BK453.out 1
             obtain ⟨Ao47, co47, eo47⟩ := Kd.N_slice HO_00.out
             subst eo47
             go_wp2_with (first | ((with_reducible refine gate_callee (f := 38) rfl ?_); refine goesL_ (some 46) rfl rfl Try.func38 (by kernel_rfl) rfl #[.agg #[.slice A0_0 l0_0.length c0_0, .slice A0_1 l0_1.length c0_1, .slice A0_2 l0_2.length c0_2], .agg #[.slice Ao19 t450.length co19, .slice Ao47 x00_3.length co47]] rfl (by (try simp only [List.map_toArray, List.map_cons, List.map_nil]); first | done | rfl | (simp only [List.length_drop, List.length_take]; rfl)) ?_; (with_reducible refine (impl_scene_ok.calls k3 _ _ l0_0 _ _ l0_1 _ _ l0_2 _ _ t450 _ _ x00_3 false _ ?side1 ?side2 ?side3 ?side4 ?side5 ?side6 ?side7 ?side8 ?side9 ?side10 A34.out).mono ?_); (case side1 => repeat (first | exact (Kd.C_below HR0_0.out HB.out) | (with_reducible refine Kd.C_alloc ?_ _) | (with_reducible refine Kd.C_drewN ?_ _) | (with_reducible refine Kd.C_drew ?_))); (case side2 => exact HC0_0.out); (case side3 => repeat (first | exact (Kd.C_below HR0_1.out HB.out) | (with_reducible refine Kd.C_alloc ?_ _) | (with_reducible refine Kd.C_drewN ?_ _) | (with_reducible refine Kd.C_drew ?_))); (case side4 => exact HC0_1.out); (case side5 => repeat (first | exact (Kd.C_below HR0_2.out HB.out) | (with_reducible refine Kd.C_alloc ?_ _) | (with_reducible refine Kd.C_drewN ?_ _) | (with_reducible refine Kd.C_drew ?_))); (case side6 => exact HC0_2.out); (case side7 => repeat (first | exact (Kd.R_reads' HO_01.out).2.2 | (with_reducible refine Kd.C_alloc ?_ _) | (with_reducible refine Kd.C_drewN ?_ _) | (with_reducible refine Kd.C_drew ?_))); (case side8 => exact (Kd.R_reads' HO_01.out).2.1); (case side9 => repeat (first | exact (Kd.N_reads' HO_00.out).2.2 | (with_reducible refine Kd.C_alloc ?_ _) | (with_reducible refine Kd.C_drewN ?_ _) | (with_reducible refine Kd.C_drew ?_))); (case side10 => exact (Kd.N_reads' HO_00.out).2.1); rintro e w48 ⟨rfl, hb⟩; refine ⟨_, rfl, ?_⟩; replace HVa := am_ (Kd.V_below (vu HVa.out) hb); replace HO_3 := am_ (Kd.N_below (nu HO_3.out) hb); replace HO_4 := am_ (Kd.N_below (nu HO_4.out) hb); replace HO_15 := am_ (Kd.N_below (nu HO_15.out) hb); replace HO_21 := am_ (Kd.N_below (nu HO_21.out) hb); replace HO_01 := am_ (Kd.R_below (ru HO_01.out) hb); replace HO_00 := am_ (Kd.N_below (nu HO_00.out) hb); replace BK441 := am_ (blk_below (bu BK441.out) hb); replace BK453 := am_ (blk_below (bu BK453.out) hb); replace HB := am_ (below_step z21_6 hb); (try clear hb); (try clear hb2); (try clear hk); (try clear hi)))
             go_roundg k3
             case measure => have := HK1.out; have := HK2.out; have := HK3.out; omega
             case rel => exact ⟨(x4_2), (wrap64 (x23_2 + 1)), z21_1, H', ⟨by have := HK1.out; have := HK2.out; have := HK3.out; omega⟩, ⟨nu (Kd.N_mono HO_3.out (fun _ hk => ⟨hk.1, ⟨hk.2.1, ⟨hk.2.2.1, hk.2.2.2.2.2.1⟩⟩⟩))⟩, ⟨nu (Kd.N_mono HO_4.out (fun _ hk => ⟨hk.1, ⟨hk.2.1, ⟨hk.2.2.1, ⟨hk.2.2.2.1, hk.2.2.2.2.2.2.1⟩⟩⟩⟩))⟩, ⟨nu (Kd.N_mono HO_15.out (fun _ hk => ⟨hk.1, ⟨hk.2.1, ⟨hk.2.2.1, ⟨hk.2.2.2.1, hk.2.2.2.2.2.2.1⟩⟩⟩⟩))⟩, ⟨nu (Kd.N_mono HO_21.out (fun _ hk => ⟨hk.1, ⟨hk.2.1, ⟨hk.2.2.1, hk.2.2.2.2.2.1⟩⟩⟩))⟩, ⟨bu BK441.out⟩, ⟨vu (Kd.V_mono HVa.out (fun _ hk => hk.1))⟩, ⟨z21_6⟩⟩
          rw [if_neg c16] at H
          exact absurd H (by simp)
         rw [if_neg c15] at H
         exact absurd H (by simp)
        rw [if_neg c14] at H
        have c14b0 : decide (x23_2 < (t442.length : Int)) = false := decide_eq_false c14
        clear c14
        have H' := am_ H
        clear H
        go_wp2
        go_roundg k2
        case measure => have := HK1.out; have := HK2.out; omega
        case rel => exact ⟨(x4_2), (wrap64 (x17_1 + 1)), z21_1, H', ⟨by have := HK1.out; have := HK2.out; omega⟩, ⟨nu HO_3.out⟩, ⟨nu (Kd.N_mono HO_4.out (fun _ hk => ⟨hk.1, ⟨hk.2.1, ⟨hk.2.2.1, hk.2.2.2.2⟩⟩⟩))⟩, ⟨nu (Kd.N_mono HO_15.out (fun _ hk => ⟨hk.1, ⟨hk.2.1, ⟨hk.2.2.1, hk.2.2.2.2⟩⟩⟩))⟩, ⟨bu BK441.out⟩, ⟨z21_4⟩⟩
     rw [if_neg c12] at H
     exact absurd H (by simp)
    rw [if_neg c11] at H
    exact absurd H (by simp)
   rw [if_neg c10] at H
   have c10b0 : decide (x17_1 < (t445.length : Int)) = false := decide_eq_false c10
   clear c10
   obtain rfl := Option.some.inj H
   go_wp2
   go_ret
   exact ⟨_, by first | rfl | (simp [errW_none, errW_some] <;> rfl) | (simp [*, errW_none, errW_some] <;> rfl), nu (Kd.N_mono HO_4.out (fun _ hk => hk.1)), z21_4⟩

end Go.Proofs.Ytmkchdlkpbnldaa.PB

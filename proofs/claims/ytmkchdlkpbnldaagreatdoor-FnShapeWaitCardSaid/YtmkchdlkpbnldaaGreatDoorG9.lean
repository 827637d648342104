/- What the laws share, part 9: PBx67 PBx84 PBx119 PBx31 PBx64 PBx16. -/
import Derived.Test.YtmkchdlkpbnldaaGreatDoorG4
import Derived.Test.YtmkchdlkpbnldaaGreatDoorG5
import Derived.Test.YtmkchdlkpbnldaaGreatDoorG7
import Derived.Test.YtmkchdlkpbnldaaGreatDoorG8
namespace Go.Proofs.YtmkchdlkpbnldaaGreatDoor.PB
open Go.RowKit Go.Proofs.YtmkchdlkpbnldaaGreatDoorW.PrintWords Go.Proofs.YtmkchdlkpbnldaaGreatDoorW.PrintLast Go.Proofs.YtmkchdlkpbnldaaGreatDoorW.PrintMore
attribute [local go_sem] max2_int min2_int max_two min_two max_three min_three max_four min_four
open Go.Proofs.YtmkchdlkpbnldaaGreatDoorMine
set_option linter.unusedVariables false
set_option linter.unusedSimpArgs false
theorem z67_1 {p : Prop} (h : p := by first | rfl | (simp; done) | (simp [*]; done)) : p := h
theorem z67_2 {p : Prop} (h : p := by first | (with_reducible assumption) | assumption) : p := h
def impl_scene_writers.l0 : Nat → Int → List Int → List (S45) → Int → Int → Option (List Int)
  | 0, _, _, _, _, _ => none
  | k + 1, x1, x5, x9, x10, x11 => if x11 < x10 then (if 0 ≤ x11 then (if x11 < (x9.length : Int) then ((impl_Do_writes.f ((rd_T45 x9 x11).f0) ((rd_T45 x9 x11).f1) ((rd_T45 x9 x11).f2)).bind fun t419 => (if t419 = true then (if ((rd_T45 x9 x11).f1) = x1 then (if x5.length < 17592186044416 then (impl_scene_writers.l0 k x1 (x5 ++ [x11]) x9 x10 (wrap64 (x11 + 1))) else (none)) else (impl_scene_writers.l0 k x1 x5 x9 x10 (wrap64 (x11 + 1)))) else (impl_scene_writers.l0 k x1 x5 x9 x10 (wrap64 (x11 + 1))))) else (none)) else (none)) else (some x5)
def impl_scene_writers.f (k : Nat) (l0_0 : List (List (S45))) (l0_1 : List (S87)) (l0_2 : List (S45)) (a1 : Int) : Option (List Int) := impl_scene_writers.l0 k a1 ([] : List Int) l0_2 (l0_2.length : Int) 0
set_option maxHeartbeats 8000000 in
set_option maxRecDepth 100000 in
theorem impl_scene_writers.calls (k : Nat) (A0_0 : Option Addr) (c0_0 : Nat) (l0_0 : List (List (S45))) (A0_1 : Option Addr) (c0_1 : Nat) (l0_1 : List (S87)) (A0_2 : Option Addr) (c0_2 : Nat) (l0_2 : List (S45)) (a1 : Int) (r : List Int) (w : World) (hr0_0 : Kd.C (Kd.slice 45 k45) w A0_0 l0_0.length l0_0) (hc0_0 : l0_0.length ≤ c0_0) (hr0_1 : Kd.C k87 w A0_1 l0_1.length l0_1) (hc0_1 : l0_1.length ≤ c0_1) (hr0_2 : Kd.C k45 w A0_2 l0_2.length l0_2) (hc0_2 : l0_2.length ≤ c0_2) (h : impl_scene_writers.f k l0_0 l0_1 l0_2 a1 = some r) :
  Calls Tryz.prog 67 #[.agg #[.slice A0_0 l0_0.length c0_0, .slice A0_1 l0_1.length c0_1, .slice A0_2 l0_2.length c0_2], .int .i64 a1] w fun e w' => ∃ v0_ : Value, e = .returned (v0_) ∧ Kd.R (Kd.int .i64) 3 w' w.heap.size (fun _ => True) v0_ r ∧ Below w.heap.size w w' := by
 have hu59 := Tryz.underlying59; have hu45 := Tryz.underlying45; have HR0_0 := am_ hr0_0; have HC0_0 := am_ hc0_0; clear hr0_0 hc0_0; have HR0_1 := am_ hr0_1; have HC0_1 := am_ hc0_1; clear hr0_1 hc0_1; have HR0_2 := am_ hr0_2; have HC0_2 := am_ hc0_2; clear hr0_2 hc0_2; have HB := am_ (Below.refl w.heap.size w); have H : (impl_scene_writers.l0 k a1 ([] : List Int) l0_2 (l0_2.length : Int) 0) = some r := h; clear h; have H' := am_ H; clear H; go_enter Tryz.func67, Tryz.ntmps67; go_wp2_with (first | ((with_reducible refine gd 2 ?_); refine boxR w 2 #[.slice A0_0 l0_0.length c0_0, .slice A0_1 l0_1.length c0_1, .slice A0_2 l0_2.length c0_2] 59 ?_; clear HB; intro gb416 hg GE416 w3 BK416 hb HB; clear hb hg; obtain ⟨_, _, _, _, _, _⟩ := cz3 BK416))
 go_loopg [5, 11] k (fun kq v5 v11 w' => ∃ (x5_1 : List Int) (x11_1 : Int), v11 = .int .i64 x11_1 ∧ Aside0 (impl_scene_writers.l0 kq a1 x5_1 l0_2 (l0_2.length : Int) x11_1 = some r) ∧ Aside0 (kq ≤ k) ∧ Aside0 (Kd.R (Kd.int .i64) 3 w' w.heap.size (fun _ => True) v5 x5_1) ∧ Aside0 (w'.heap[gb416]? = some (.cells #[(.slice A0_0 l0_0.length c0_0), (.slice A0_1 l0_1.length c0_1), (.slice A0_2 l0_2.length c0_2)] 59 (0, 0))) ∧ Aside0 (Below w.heap.size w w'))
 case atStart => exact ⟨(([] : List Int)), (0), z67_1, H', ⟨Nat.le_refl _⟩, ⟨by first | exact Kd.R_nil _ _ _ _ _ | exact Kd.N_nil _ _ _ _ _ | exact Kd.V_nil _ _ _ _ _ | exact Kd.Q_nil _ _ _ _ _ | exact Kd.S_nil _ _ _ _ _⟩, ⟨bu BK416.out⟩, ⟨hh⟩⟩
 case round =>
  clear H'; obtain ⟨x5_1, x11_1, rfl, HA, HK1, HO_5, BK416, HB⟩ := hrel
  cases gk with
  | zero => exact absurd HA.out (by simp [impl_scene_writers.l0])
  | succ k1 =>
   have H := HA.out; clear HA; simp only [impl_scene_writers.l0] at H; by_cases c5 : x11_1 < (l0_2.length : Int)
   ·rw [if_pos c5] at H; have c5b0 := decide_eq_true c5; clear c5; by_cases c6 : 0 ≤ x11_1
    ·rw [if_pos c6] at H; have c6b0 := decide_eq_true c6; clear c6; by_cases c7 : x11_1 < (l0_2.length : Int)
     ·rw [if_pos c7] at H; have c7b0 := decide_eq_true c7; clear c7; replace H := Option.bind_eq_some_iff.mp H; obtain ⟨t419, A80, H⟩ := H; replace H : (if t419 = true then (if ((rd_T45 l0_2 x11_1).f1) = a1 then (if x5_1.length < 17592186044416 then (impl_scene_writers.l0 k1 a1 (x5_1 ++ [x11_1]) l0_2 (l0_2.length : Int) (wrap64 (x11_1 + 1))) else (none)) else (impl_scene_writers.l0 k1 a1 x5_1 l0_2 (l0_2.length : Int) (wrap64 (x11_1 + 1)))) else (impl_scene_writers.l0 k1 a1 x5_1 l0_2 (l0_2.length : Int) (wrap64 (x11_1 + 1)))) = some r := H; have A8 := am_ A80; clear A80; by_cases c9 : t419 = true
      ·subst c9; rw [if_pos rfl] at H; by_cases c10 : ((rd_T45 l0_2 x11_1).f1) = a1
       ·rw [if_pos c10] at H; have c10b0 := beq_iff_eq.mpr c10; have c10b1 := bne_eq_false_iff_eq.mpr c10; clear c10; by_cases c11 : x5_1.length < 17592186044416
        ·rw [if_pos c11] at H; have LMc11 := am_ c11; clear c11; obtain ⟨y420, hy420⟩ : ∃ y_ : List Int, y_ = (x5_1 ++ [x11_1]) := ⟨_, rfl⟩; replace H : (impl_scene_writers.l0 k1 a1 y420 l0_2 (l0_2.length : Int) (wrap64 (x11_1 + 1))) = some r := by first | (rw [hy420]; with_reducible exact H) | (have H2_ := (Option.bind_some _ _).symm.trans H; rw [hy420]; with_reducible exact H2_) | (have H2_ := (Option.bind_some _ _).symm.trans H; with_reducible exact H2_) | with_reducible exact H | (rw [hy420]; exact H) | exact H
         have Ny420 := am_ hy420; clear hy420; have H' := am_ H; clear H; have p417 : 0 ≤ (x11_1 : Int) := of_decide_eq_true z67_2; have q417 : x11_1 < (l0_2.length : Int) := of_decide_eq_true z67_2; obtain ⟨ad417, e417, hx417_0, hx417_1, hx417_2⟩ := at_T45 HR0_2.out x11_1 p417 q417; cases e417; replace hx417_0 := xc HB hx417_0; replace hx417_1 := xc HB hx417_1; replace hx417_2 := xc HB hx417_2; replace p417 := eq_true p417; replace q417 := eq_true q417; go_wp2_with (first | ((with_reducible refine gd 7 ?_); refine boxR w 7 #[.int .i64 0, .int .i64 0, .int .i64 0] 45 ?_; clear HB; intro gb418 hg GE418 w12 BK418 hb HB; obtain ⟨NB416_418, NB418_416⟩ := nb BK416 hg; replace HO_5 := am_ (Kd.R_below (ru HO_5.out) hb); replace BK416 := bk BK416 hb; clear hb hg; obtain ⟨_, _⟩ := n2 NB418_416; obtain ⟨_, _, _, _, _, _⟩ := cz3 BK418) | ((with_reducible refine gc 41 ?_); refine goesQ 17 Tryz.func41 #[.agg #[.int .i64 ((rd_T45 l0_2 x11_1).f0), .int .i64 ((rd_T45 l0_2 x11_1).f1), .int .i64 ((rd_T45 l0_2 x11_1).f2)]] ?_; (with_reducible refine (impl_Do_writes.calls ((rd_T45 l0_2 x11_1).f0) ((rd_T45 l0_2 x11_1).f1) ((rd_T45 l0_2 x11_1).f2) true _ A8.out).mono ?_); rintro e w15 ⟨rfl, hb⟩; refine ⟨_, rfl, ?_⟩; replace HO_5 := am_ (Kd.R_below (ru (Kd.R_mono (Kd.R_far (p := ⟨gb418, 2, none⟩) (Kd.R_far (p := ⟨gb418, 1, none⟩) (Kd.R_far (p := ⟨gb418, 0, none⟩) (Kd.R_types HO_5.out BK418.out (by decide)) (fun _ hk => hk.2) (.int .i64 ((rd_T45 l0_2 x11_1).f0))) (fun _ hk => hk.2) (.int .i64 ((rd_T45 l0_2 x11_1).f1))) (fun _ hk => hk.2) (.int .i64 ((rd_T45 l0_2 x11_1).f2))) (fun _ h_ => h_.1))) hb); replace BK416 := bf BK416 hb; replace BK418 := bo gb418 45 #[.int .i64 ((rd_T45 l0_2 x11_1).f0), .int .i64 ((rd_T45 l0_2 x11_1).f1), .int .i64 ((rd_T45 l0_2 x11_1).f2)] hb; replace HB := hs hb; clear hb; obtain ⟨_, _, _, _, _, _⟩ := cz3 BK418) | ((with_reducible refine gate_builtin (b := .append) (xs := #[.tmp 24, .tmp 26]) rfl ?_); at_builtin; refine Kd.R_append (Kd.int .i64) (w0 := w) w.heap.size rfl (.tmp 24) (.tmp 26) 33 3 (.int .i64 0) 8 rfl Tryz.underlying33 info3 rfl (by decide) (by omega) u5 x5_1 x11_1 [.int .i64 x11_1] (fun _ => True) (fun _ => False) rfl rfl ?aP (fun _ hk => hk.elim) ?aF ?aO ?aB ?aS ?aL ?_; (case aP => exact rfl); (case aB => exact hh); (case aF => exact (fun _ _ => trivial)); (case aO => exact (ru HO_5.out)); (case aS => exact (below_size hh)); (case aL => have := LMc11.out; omega); intro v421 w17 ho hb hg hat; rw [← Ny420.out] at ho; replace BK416 := am_ (blk_grown (bu BK416.out) hg (Kd.R_ne HO_5.out BK416.out (by decide))); replace BK418 := am_ (blk_grown (bu BK418.out) hg (Kd.R_ne HO_5.out BK418.out (by decide))); replace HB := am_ (hb); have HO422 := am_ (ho); clear HO_5; clear ho hb hg hat))
         go_roundg k1
         case measure => have := HK1.out; omega
         case rel => exact ⟨(y420), (wrap64 (x11_1 + 1)), z67_1, H', ⟨by have := HK1.out; omega⟩, ⟨ru HO422.out⟩, ⟨bu BK416.out⟩, ⟨hh⟩⟩
        rw [if_neg c11] at H; exact absurd H (by simp)
       rw [if_neg c10] at H; have c10b0 := beq_eq_false_iff_ne.mpr c10; have c10b1 := bne_iff_ne.mpr c10; have H' := am_ H; clear H; have p417 : 0 ≤ (x11_1 : Int) := of_decide_eq_true z67_2; have q417 : x11_1 < (l0_2.length : Int) := of_decide_eq_true z67_2; obtain ⟨ad417, e417, hx417_0, hx417_1, hx417_2⟩ := at_T45 HR0_2.out x11_1 p417 q417; cases e417; replace hx417_0 := xc HB hx417_0; replace hx417_1 := xc HB hx417_1; replace hx417_2 := xc HB hx417_2; replace p417 := eq_true p417; replace q417 := eq_true q417; go_wp2_with (first | ((with_reducible refine gd 7 ?_); refine boxR w 7 #[.int .i64 0, .int .i64 0, .int .i64 0] 45 ?_; clear HB; intro gb418 hg GE418 w18 BK418 hb HB; obtain ⟨NB416_418, NB418_416⟩ := nb BK416 hg; replace HO_5 := am_ (Kd.R_below (ru HO_5.out) hb); replace BK416 := bk BK416 hb; clear hb hg; obtain ⟨_, _⟩ := n2 NB418_416; obtain ⟨_, _, _, _, _, _⟩ := cz3 BK418) | ((with_reducible refine gc 41 ?_); refine goesQ 17 Tryz.func41 #[.agg #[.int .i64 ((rd_T45 l0_2 x11_1).f0), .int .i64 ((rd_T45 l0_2 x11_1).f1), .int .i64 ((rd_T45 l0_2 x11_1).f2)]] ?_; (with_reducible refine (impl_Do_writes.calls ((rd_T45 l0_2 x11_1).f0) ((rd_T45 l0_2 x11_1).f1) ((rd_T45 l0_2 x11_1).f2) true _ A8.out).mono ?_); rintro e w21 ⟨rfl, hb⟩; refine ⟨_, rfl, ?_⟩; replace HO_5 := am_ (Kd.R_below (ru (Kd.R_mono (Kd.R_far (p := ⟨gb418, 2, none⟩) (Kd.R_far (p := ⟨gb418, 1, none⟩) (Kd.R_far (p := ⟨gb418, 0, none⟩) (Kd.R_types HO_5.out BK418.out (by decide)) (fun _ hk => hk.2) (.int .i64 ((rd_T45 l0_2 x11_1).f0))) (fun _ hk => hk.2) (.int .i64 ((rd_T45 l0_2 x11_1).f1))) (fun _ hk => hk.2) (.int .i64 ((rd_T45 l0_2 x11_1).f2))) (fun _ h_ => h_.1))) hb); replace BK416 := bf BK416 hb; replace BK418 := bo gb418 45 #[.int .i64 ((rd_T45 l0_2 x11_1).f0), .int .i64 ((rd_T45 l0_2 x11_1).f1), .int .i64 ((rd_T45 l0_2 x11_1).f2)] hb; replace HB := hs hb; clear hb; obtain ⟨_, _, _, _, _, _⟩ := cz3 BK418))
       go_roundg k1
       case measure => have := HK1.out; omega
       case rel => exact ⟨(x5_1), (wrap64 (x11_1 + 1)), z67_1, H', ⟨by have := HK1.out; omega⟩, ⟨ru HO_5.out⟩, ⟨bu BK416.out⟩, ⟨hh⟩⟩
      replace c9 := Bool.eq_false_iff.mpr c9; subst c9; rw [if_neg Bool.false_ne_true] at H; have H' := am_ H; clear H; have p417 : 0 ≤ (x11_1 : Int) := of_decide_eq_true z67_2; have q417 : x11_1 < (l0_2.length : Int) := of_decide_eq_true z67_2; obtain ⟨ad417, e417, hx417_0, hx417_1, hx417_2⟩ := at_T45 HR0_2.out x11_1 p417 q417; cases e417; replace hx417_0 := xc HB hx417_0; replace hx417_1 := xc HB hx417_1; replace hx417_2 := xc HB hx417_2; replace p417 := eq_true p417; replace q417 := eq_true q417; go_wp2_with (first | ((with_reducible refine gd 7 ?_); refine boxR w 7 #[.int .i64 0, .int .i64 0, .int .i64 0] 45 ?_; clear HB; intro gb418 hg GE418 w23 BK418 hb HB; obtain ⟨NB416_418, NB418_416⟩ := nb BK416 hg; replace HO_5 := am_ (Kd.R_below (ru HO_5.out) hb); replace BK416 := bk BK416 hb; clear hb hg; obtain ⟨_, _⟩ := n2 NB418_416; obtain ⟨_, _, _, _, _, _⟩ := cz3 BK418) | ((with_reducible refine gc 41 ?_); refine goesQ 17 Tryz.func41 #[.agg #[.int .i64 ((rd_T45 l0_2 x11_1).f0), .int .i64 ((rd_T45 l0_2 x11_1).f1), .int .i64 ((rd_T45 l0_2 x11_1).f2)]] ?_; (with_reducible refine (impl_Do_writes.calls ((rd_T45 l0_2 x11_1).f0) ((rd_T45 l0_2 x11_1).f1) ((rd_T45 l0_2 x11_1).f2) false _ A8.out).mono ?_); rintro e w26 ⟨rfl, hb⟩; refine ⟨_, rfl, ?_⟩; replace HO_5 := am_ (Kd.R_below (ru (Kd.R_mono (Kd.R_far (p := ⟨gb418, 2, none⟩) (Kd.R_far (p := ⟨gb418, 1, none⟩) (Kd.R_far (p := ⟨gb418, 0, none⟩) (Kd.R_types HO_5.out BK418.out (by decide)) (fun _ hk => hk.2) (.int .i64 ((rd_T45 l0_2 x11_1).f0))) (fun _ hk => hk.2) (.int .i64 ((rd_T45 l0_2 x11_1).f1))) (fun _ hk => hk.2) (.int .i64 ((rd_T45 l0_2 x11_1).f2))) (fun _ h_ => h_.1))) hb); replace BK416 := bf BK416 hb; replace BK418 := bo gb418 45 #[.int .i64 ((rd_T45 l0_2 x11_1).f0), .int .i64 ((rd_T45 l0_2 x11_1).f1), .int .i64 ((rd_T45 l0_2 x11_1).f2)] hb; replace HB := hs hb; clear hb))
      go_roundg k1
      case measure => have := HK1.out; omega
      case rel => exact ⟨(x5_1), (wrap64 (x11_1 + 1)), z67_1, H', ⟨by have := HK1.out; omega⟩, ⟨ru HO_5.out⟩, ⟨bu BK416.out⟩, ⟨hh⟩⟩
     rw [if_neg c7] at H; exact absurd H (by simp)
    rw [if_neg c6] at H; exact absurd H (by simp)
   rw [if_neg c5] at H; have c5b0 := decide_eq_false c5; clear c5; obtain rfl := Option.some.inj H; go_wp2; go_ret; exact ⟨_, by first | rfl | (simp [errW_none, errW_some] <;> rfl) | (simp [*, errW_none, errW_some] <;> rfl), ru HO_5.out, hh⟩
def slices_Contains_int_int.f (k : Nat) (l0 : List Int) (a1 : Int) : Option (Bool) := (slices_Index_int_int.f k l0 a1).bind fun t482 => (some (decide (t482 ≥ 0)))
set_option maxHeartbeats 8000000 in
set_option maxRecDepth 100000 in
theorem slices_Contains_int_int.calls (k : Nat) (A0 : Option Addr) (c0 : Nat) (l0 : List Int) (a1 : Int) (r : Bool) (w : World) (hr0 : Kd.C (Kd.int .i64) w A0 l0.length l0) (hc0 : l0.length ≤ c0) (h : slices_Contains_int_int.f k l0 a1 = some r) :
  Calls Tryz.prog 84 #[.slice A0 l0.length c0, .int .i64 a1] w fun e w' => e = .returned (.bool r) ∧ Drawn0 w w' := by
 have HR0 := am_ hr0; have HC0 := am_ hc0; clear hr0 hc0; have H : ((slices_Index_int_int.f k l0 a1).bind fun t482 => (some (decide (t482 ≥ 0)))) = some r := h; clear h; replace H := Option.bind_eq_some_iff.mp H; obtain ⟨t482, A30, H⟩ := H; replace H : (some (decide (t482 ≥ 0))) = some r := H; have A3 := am_ A30; clear A30; obtain rfl := Option.some.inj H; go_enter Tryz.func84, Tryz.ntmps84; go_wp2_with (first | ((with_reducible refine gc 70 ?_); refine goesQ 7 Tryz.func70 #[.slice A0 l0.length c0, .int .i64 a1] ?_; (with_reducible refine (slices_Index_int_int.calls k _ _ l0 a1 t482 _ ?side1 ?side2 A3.out).mono ?_); (case side1 => exact cq HR0.out); (case side2 => exact HC0.out); rintro e w' ⟨rfl, ⟨nd, rfl⟩⟩; refine ⟨_, rfl, ?_⟩))
 go_ret; exact ⟨by first | rfl | (simp; done) | (simp [*]; done), by repeat (first | exact Drawn0.refl _ | apply Drawn0.step)⟩
theorem z119_1 {p : Prop} (h : p := by first | rfl | (simp; done) | (simp [*]; done)) : p := h
theorem z119_2 {p : Prop} (h : p := by repeat (first | exact Drawn0.refl _ | apply Drawn0.step)) : p := h
def cmp_Less_int.f (a0 : Int) (a1 : Int) : Option (Bool) := (cmp_isNaN_int.f a0).bind fun t486 => (if t486 = true then ((cmp_isNaN_int.f a1).bind fun t487 => (if t487 = true then (some (decide (a0 < a1))) else (some true))) else (some (decide (a0 < a1))))
set_option maxHeartbeats 8000000 in
set_option maxRecDepth 100000 in
theorem cmp_Less_int.calls (a0 : Int) (a1 : Int) (r : Bool) (w : World) (h : cmp_Less_int.f a0 a1 = some r) :
  Calls Tryz.prog 119 #[.int .i64 a0, .int .i64 a1] w fun e w' => e = .returned (.bool r) ∧ Drawn0 w w' := by
 have H : ((cmp_isNaN_int.f a0).bind fun t486 => (if t486 = true then ((cmp_isNaN_int.f a1).bind fun t487 => (if t487 = true then (some (decide (a0 < a1))) else (some true))) else (some (decide (a0 < a1))))) = some r := h; clear h; replace H := Option.bind_eq_some_iff.mp H; obtain ⟨t486, A30, H⟩ := H; replace H : (if t486 = true then ((cmp_isNaN_int.f a1).bind fun t487 => (if t487 = true then (some (decide (a0 < a1))) else (some true))) else (some (decide (a0 < a1)))) = some r := H; have A3 := am_ A30; clear A30; by_cases c4 : t486 = true
 ·subst c4; rw [if_pos rfl] at H; replace H := Option.bind_eq_some_iff.mp H; obtain ⟨t487, A50, H⟩ := H; replace H : (if t487 = true then (some (decide (a0 < a1))) else (some true)) = some r := H; have A5 := am_ A50; clear A50; by_cases c6 : t487 = true
  ·subst c6; rw [if_pos rfl] at H; obtain rfl := Option.some.inj H; go_enter Tryz.func119, Tryz.ntmps119; go_wp2_with (first | ((with_reducible refine gc 105 ?_); refine goesQ 6 Tryz.func105 #[.int .i64 a0] ?_; (with_reducible refine (cmp_isNaN_int.calls a0 true _ A3.out).mono ?_); rintro e w' ⟨rfl, ⟨nd, rfl⟩⟩; refine ⟨_, rfl, ?_⟩) | (go_at_call 105; (with_reducible refine (cmp_isNaN_int.calls a1 true _ A5.out).mono ?_); rintro e w' ⟨rfl, ⟨nd, rfl⟩⟩))
   go_ret; exact ⟨z119_1, z119_2⟩
  replace c6 := Bool.eq_false_iff.mpr c6; subst c6; rw [if_neg Bool.false_ne_true] at H; obtain rfl := Option.some.inj H; go_enter Tryz.func119, Tryz.ntmps119; go_wp2_with (first | ((with_reducible refine gc 105 ?_); refine goesQ 6 Tryz.func105 #[.int .i64 a0] ?_; (with_reducible refine (cmp_isNaN_int.calls a0 true _ A3.out).mono ?_); rintro e w' ⟨rfl, ⟨nd, rfl⟩⟩; refine ⟨_, rfl, ?_⟩) | (go_at_call 105; (with_reducible refine (cmp_isNaN_int.calls a1 false _ A5.out).mono ?_); rintro e w' ⟨rfl, ⟨nd, rfl⟩⟩))
  go_ret; exact ⟨z119_1, z119_2⟩
 replace c4 := Bool.eq_false_iff.mpr c4; subst c4; rw [if_neg Bool.false_ne_true] at H; obtain rfl := Option.some.inj H; go_enter Tryz.func119, Tryz.ntmps119; go_wp2_with (first | ((with_reducible refine gc 105 ?_); refine goesQ 6 Tryz.func105 #[.int .i64 a0] ?_; (with_reducible refine (cmp_isNaN_int.calls a0 false _ A3.out).mono ?_); rintro e w' ⟨rfl, ⟨nd, rfl⟩⟩; refine ⟨_, rfl, ?_⟩))
 go_ret; exact ⟨z119_1, z119_2⟩
theorem shapeOdd_case (n : Nat) (xs ys : List Int) (hn : 1 ≤ n) (h6 : n ≤ 6) (hx : (shapesL.getD n default).2.2.1 = xs) (hy : (shapesL.getD n default).2.2.2 = ys) (hlx : xs.length < 1048577) (hly : ys.length < 1048577) (w : World) :
    Calls Tryz.prog 31 #[.int .i64 n] w fun e w' => ∃ v0_ v1_ : Value, e = .returned (.tuple #[.agg #[v0_, v1_], .bool true]) ∧ Kd.R (Kd.int .i64) 3 w' w.heap.size (fun k_ => some k_ ≠ (v1_ : Value).ownBlock) v0_ xs ∧ Kd.R (Kd.int .i64) 3 w' w.heap.size (fun k_ => some k_ ≠ (v0_ : Value).ownBlock) v1_ ys ∧ Below w.heap.size w w' := by
  have hi := impl_in.calls n 1 6 true
  have cl := fun A0 c0 l0 w hr0 hc0 hl => slices_Clone_int_int_47.calls A0 c0 l0 l0 w hr0 hc0 (by unfold slices_Clone_int_int_47.f; exact if_pos hl)
  go_enter Tryz.func31, Tryz.ntmps31
  go_wp2_with (go_at_call 21; refine park ?_)
  refine ⟨?_⟩
  refine (hi _ (by unfold impl_in.f; rw [if_pos (by omega)]; simp; omega)).mono ?_
  rintro e w' ⟨rfl, hd⟩
  obtain ⟨m, rfl⟩ := hd.out
  clear hi hd
  go_wp2_with (go_at_call 22; refine park ?_)
  refine ⟨?_⟩
  refine (shapes_calls _).mono ?_
  rintro e w1 ⟨g, rfl, hb, hs⟩
  obtain ⟨A1, A2, A3, A4, -, -, h3, h4, -, -, c3, c4⟩ := hs n (by omega)
  clear hs
  rw [hx] at h3 c3
  rw [hy] at h4 c4
  rw [show 4 * n + 2 = n * 4 + 2 by omega] at h3
  rw [show 4 * n + 3 = n * 4 + 3 by omega] at h4
  have HX := am_ hx
  have HY := am_ hy
  clear hx hy
  have hbb : Below w.heap.size w w1 := ⟨hb.os, hb.tape, hb.output, Nat.le_trans (by simp) hb.size, fun i hi => (hb.block i (by simp; omega)).trans (Below.heap_alloc w _ i hi)⟩
  have hblk : w1.heap[w.heap.size]? = some (.cells #[.slice none 0 0, .slice none 0 0] 35 (0, 0)) := (hb.block _ (by simp)).trans (heap_alloc_new w _)
  have hc0 : w1.cell? ⟨w.heap.size, 0, none⟩ = some (.slice none 0 0) := blk_cell hblk 0
  have hc1 : w1.cell? ⟨w.heap.size, 1, none⟩ = some (.slice none 0 0) := blk_cell hblk 1
  clear hb
  go_wp2_with fail
  clear h3 h4
  have hlt : w.heap.size < w1.heap.size := blk_lt hblk
  generalize hB : Obj.cells #[Value.slice A3 xs.length xs.length, Value.slice A4 ys.length ys.length] 35 = BO
  have f0 : (w1.alloc BO).cell? ⟨w1.heap.size, 0, none⟩ = some (.slice A3 xs.length xs.length) := by subst hB; exact blk_cell (heap_alloc_new w1 _) 0
  have f1 : (w1.alloc BO).cell? ⟨w1.heap.size, 1, none⟩ = some (.slice A4 ys.length ys.length) := by subst hB; exact blk_cell (heap_alloc_new w1 _) 1
  have hblk2 : (w1.alloc BO).heap[w.heap.size]? = some (.cells #[.slice none 0 0, .slice none 0 0] 35 (0, 0)) := blk_alloc hblk _
  have k3 : Kd.C (Kd.int .i64) (w1.alloc BO) A3 xs.length xs := Kd.C_below c3 (below_alloc (Below.refl _ _) _)
  have k4 : Kd.C (Kd.int .i64) (w1.alloc BO) A4 ys.length ys := Kd.C_below c4 (below_alloc (Below.refl _ _) _)
  have hb2 : Below w.heap.size w (w1.alloc BO) := below_alloc hbb _
  have hlt2 : w1.heap.size < (w1.alloc BO).heap.size := by simp
  generalize w1.alloc BO = w2 at *
  generalize w1.heap.size = g2 at *
  have hne1 : ¬ (w.heap.size = g2) := by omega
  have hne2 : ¬ (g2 = w.heap.size) := by omega
  clear hbb hc0 hc1 hlt hB c3 c4 hblk
  have HB2 := am_ (below_drew hb2)
  have k3' : Kd.C (Kd.int .i64) w2.drew A3 xs.length xs := k3
  have k4' : Kd.C (Kd.int .i64) w2.drew A4 ys.length ys := k4
  have HB3 := am_ (show w2.drew.heap[w.heap.size]? = some (.cells #[.slice none 0 0, .slice none 0 0] 35 (0, 0)) from hblk2)
  have f0' : w2.drew.cell? ⟨g2, 0, none⟩ = some (.slice A3 xs.length xs.length) := f0
  have f1' : w2.drew.cell? ⟨g2, 1, none⟩ = some (.slice A4 ys.length ys.length) := f1
  clear k3 k4 hblk2 hb2 hlt2
  go_region_held3 (fun W => W.cell? ⟨g2, 0, none⟩ = some (.slice A3 xs.length xs.length) ∧ W.cell? ⟨g2, 1, none⟩ = some (.slice A4 ys.length ys.length)) (go_keep)
    (first
      | (go_at_call 47; (with_reducible refine (cl A3 _ xs w2.drew k3' (Nat.le_refl _) hlx).mono ?_); rintro e w3 ⟨v3, rfl, ho3, hb3⟩; obtain ⟨Ao3, co3, rfl⟩ := Kd.R_slice ho3; have q0 : w3.cell? ⟨g2, 0, none⟩ = some (.slice A3 xs.length xs.length) := pw_cell_below hb3 f0'; have q1 : w3.cell? ⟨g2, 1, none⟩ = some (.slice A4 ys.length ys.length) := pw_cell_below hb3 f1'; have hA := am_ ho3; have hBB := am_ hb3; clear ho3 hb3)
      | (go_at_call 47; (with_reducible refine (cl A4 _ ys _ (Kd.C_below k4' hBB.out) (Nat.le_refl _) hly).mono ?_); rintro e w4 ⟨v4, rfl, ho4, hb4⟩; obtain ⟨Ao4, co4, rfl⟩ := Kd.R_slice ho4; have q0 : w4.cell? ⟨g2, 0, none⟩ = some (.slice A3 xs.length xs.length) := pw_cell_below hb4 (pw_cell_below hBB.out f0'); have q1 : w4.cell? ⟨g2, 1, none⟩ = some (.slice A4 ys.length ys.length) := pw_cell_below hb4 (pw_cell_below hBB.out f1'); have hb5 := blk_below (blk_below HB3.out hBB.out) hb4; have z0 : w4.cell? ⟨w.heap.size, 0, none⟩ = some (.slice none 0 0) := blk_cell hb5 0; have z1 : w4.cell? ⟨w.heap.size, 1, none⟩ = some (.slice none 0 0) := blk_cell hb5 1; have y0 := blk_frozen hb5 0; have y1 := blk_frozen hb5 1; have hB5 := am_ hb5; clear hb5; have hA4 := am_ ho4; have hBB4 := am_ hb4; clear ho4 hb4))
  clear f0' f1' f0 f1 q0 q1 z0 z1 y0 y1
  go_wp2_with fail
  have s0 := blk_set hB5.out 0 (.slice Ao3 xs.length co3)
  have s1 := blk_set s0 1 (.slice Ao4 ys.length co4)
  refine bodyPost_ret (results_ct rfl _ _ w.heap.size 35 #[.slice Ao3 xs.length co3, .slice Ao4 ys.length co4] (0, 0) _ rfl s1 Tryz.underlying35 rfl (by kernel_rfl)) rfl ?_
  have hsz : w.heap.size ≤ w2.drew.heap.size := HB2.out.size
  have hsz3 : w.heap.size ≤ w3.heap.size := Nat.le_trans hsz hBB.out.size
  have r3 := Kd.R_elder' hA.out (Kd.R_base hA4.out) hBB4.out
  have r4 := Kd.R_new' hA4.out (Kd.R_lt hA.out)
  have t3 : ∀ k, (True ∧ some k ≠ (Value.slice Ao4 ys.length co4).ownBlock) → _ := fun k h => h
  have hn3 : some w.heap.size ≠ (Value.slice Ao3 xs.length co3).ownBlock := fun e => by have := Kd.R_base hA.out _ e.symm; have := blk_lt HB3.out; omega
  have hn4 : some w.heap.size ≠ (Value.slice Ao4 ys.length co4).ownBlock := fun e => by have := Kd.R_base hA4.out _ e.symm; have := blk_lt HB3.out; have := hBB.out.size; omega
  refine ⟨_, _, rfl, ?_, ?_, ?_⟩
  · have a := Kd.R_far (p := ⟨w.heap.size, 1, none⟩) (Kd.R_far (p := ⟨w.heap.size, 0, none⟩) (Kd.R_far1 r3 rfl hn3) (fun k hk => hk.2) (.slice Ao3 xs.length co3)) (fun k hk => hk.2) (.slice Ao4 ys.length co4)
    exact Kd.R_mono (Kd.R_lower a hsz) (fun k hk => hk.1.2)
  · have a := Kd.R_far (p := ⟨w.heap.size, 1, none⟩) (Kd.R_far (p := ⟨w.heap.size, 0, none⟩) (Kd.R_far1 r4 rfl hn4) (fun k hk => hk.2) (.slice Ao3 xs.length co3)) (fun k hk => hk.2) (.slice Ao4 ys.length co4)
    exact Kd.R_mono (Kd.R_lower a hsz3) (fun k hk => hk.1.2)
  exact below_set (below_set (below_then (below_then HB2.out hsz hBB.out) hsz3 hBB4.out) (Nat.le_refl _)) (Nat.le_refl _)
def impl_ShapeOdd.f (a0 : Int) : Option (List Int × List Int × Bool) := if 1 ≤ a0 ∧ a0 ≤ 6 then some ((shapesL.getD a0.toNat default).2.2.1, (shapesL.getD a0.toNat default).2.2.2, true) else some ([], [], false)
theorem shapesL_short : ∀ n, n < 7 → (shapesL.getD n default).2.2.1.length < 1048577 ∧ (shapesL.getD n default).2.2.2.length < 1048577 := by decide
theorem impl_ShapeOdd.calls (a0 : Int) (r1 : List Int) (r2 : List Int) (r3 : Bool) (w : World) (h : impl_ShapeOdd.f a0 = some (r1, r2, r3)) :
  Calls Tryz.prog 31 #[.int .i64 a0] w fun e w' => ∃ v0_ v1_ : Value, e = .returned (.tuple #[.agg #[v0_, v1_], .bool r3]) ∧ Kd.R (Kd.int .i64) 3 w' w.heap.size (fun k_ => some k_ ≠ (v1_ : Value).ownBlock) v0_ r1 ∧ Kd.R (Kd.int .i64) 3 w' w.heap.size (fun k_ => some k_ ≠ (v0_ : Value).ownBlock) v1_ r2 ∧ Below w.heap.size w w' := by
 unfold impl_ShapeOdd.f at h
 split at h
 ·rename_i hc
  obtain ⟨n, rfl⟩ := Int.eq_ofNat_of_zero_le (show 0 ≤ a0 by omega)
  simp only [Option.some.injEq, Prod.mk.injEq, Int.toNat_natCast] at h
  obtain ⟨h1, h2, rfl⟩ := h
  have hs := shapesL_short n (by omega)
  exact shapeOdd_case n r1 r2 (by omega) (by omega) h1 h2 (by rw [← h1]; exact hs.1) (by rw [← h2]; exact hs.2) w
 rename_i hc
 simp only [Option.some.injEq, Prod.mk.injEq] at h
 obtain ⟨rfl, rfl, rfl⟩ := h
 have hi := impl_in.calls a0 1 6 false
 go_enter Tryz.func31, Tryz.ntmps31
 go_wp2_with (go_at_call 21; refine park ?_)
 refine ⟨?_⟩
 refine (hi _ (by unfold impl_in.f; split <;> simp; omega)).mono ?_
 rintro e w' ⟨rfl, hd⟩
 obtain ⟨m, rfl⟩ := hd.out
 clear hi hd
 go_wp2_with fail
 refine bodyPost_ret (results_ct rfl _ _ w.heap.size 35 #[.slice none 0 0, .slice none 0 0] (0, 0) _ rfl (blk_set (blk_set (blk_drewN (heap_alloc_new w _) m) 0 _) 1 _) Tryz.underlying35 rfl (by kernel_rfl)) rfl ?_
 exact ⟨_, _, rfl, Kd.R_nil _ _ _ _ _, Kd.R_nil _ _ _ _ _, below_set (below_set (pw_below_drewN (below_alloc (Below.refl _ _) _) m) (Nat.le_refl _)) (Nat.le_refl _)⟩
theorem z64_1 {p : Prop} (h : p := by first | rfl | (simp [errW_none, errW_some] <;> rfl) | (simp [*, errW_none, errW_some] <;> rfl)) : p := h
def spec_l2Seen.f (k : Nat) (l0_0 : List Int) (l0_1 : List Int) (l1_0 : List Int) (l1_1 : List Int) : Option (Int) := (spec_l2Comp.f k l0_0 l1_0).bind fun t738 => (if t738 = 0 then ((spec_l2Comp.f k l0_1 l1_1).bind fun t739 => (some t739)) else (some t738))
set_option maxHeartbeats 8000000 in
set_option maxRecDepth 100000 in
theorem spec_l2Seen.calls (k : Nat) (A0_0 : Option Addr) (c0_0 : Nat) (l0_0 : List Int) (A0_1 : Option Addr) (c0_1 : Nat) (l0_1 : List Int) (A1_0 : Option Addr) (c1_0 : Nat) (l1_0 : List Int) (A1_1 : Option Addr) (c1_1 : Nat) (l1_1 : List Int) (r : Int) (w : World) (hr0_0 : Kd.C (Kd.int .i64) w A0_0 l0_0.length l0_0) (hc0_0 : l0_0.length ≤ c0_0) (hr0_1 : Kd.C (Kd.int .i64) w A0_1 l0_1.length l0_1) (hc0_1 : l0_1.length ≤ c0_1) (hr1_0 : Kd.C (Kd.int .i64) w A1_0 l1_0.length l1_0) (hc1_0 : l1_0.length ≤ c1_0) (hr1_1 : Kd.C (Kd.int .i64) w A1_1 l1_1.length l1_1) (hc1_1 : l1_1.length ≤ c1_1) (h : spec_l2Seen.f k l0_0 l0_1 l1_0 l1_1 = some r) :
  Calls Tryz.prog 64 #[.agg #[.slice A0_0 l0_0.length c0_0, .slice A0_1 l0_1.length c0_1], .agg #[.slice A1_0 l1_0.length c1_0, .slice A1_1 l1_1.length c1_1]] w fun e w' => e = .returned (.int .i64 r) ∧ Below w.heap.size w w' := by
 have hu35 := Tryz.underlying35; have HR0_0 := am_ hr0_0; have HC0_0 := am_ hc0_0; clear hr0_0 hc0_0; have HR0_1 := am_ hr0_1; have HC0_1 := am_ hc0_1; clear hr0_1 hc0_1; have HR1_0 := am_ hr1_0; have HC1_0 := am_ hc1_0; clear hr1_0 hc1_0; have HR1_1 := am_ hr1_1; have HC1_1 := am_ hc1_1; clear hr1_1 hc1_1; have HB := am_ (Below.refl w.heap.size w); have H : ((spec_l2Comp.f k l0_0 l1_0).bind fun t738 => (if t738 = 0 then ((spec_l2Comp.f k l0_1 l1_1).bind fun t739 => (some t739)) else (some t738))) = some r := h; clear h; replace H := Option.bind_eq_some_iff.mp H; obtain ⟨t738, A30, H⟩ := H; replace H : (if t738 = 0 then ((spec_l2Comp.f k l0_1 l1_1).bind fun t739 => (some t739)) else (some t738)) = some r := H; have A3 := am_ A30; clear A30; by_cases c4 : t738 = 0
 ·rw [if_pos c4] at H; have c4b0 := beq_iff_eq.mpr c4; have c4b1 := bne_eq_false_iff_eq.mpr c4; clear c4; replace H := Option.bind_eq_some_iff.mp H; obtain ⟨t739, A50, H⟩ := H; replace H : (some t739) = some r := H; have A5 := am_ A50; clear A50; obtain rfl := Option.some.inj H; go_enter Tryz.func64, Tryz.ntmps64; go_wp2_with (first | ((with_reducible refine gd 2 ?_); refine boxR w 2 #[.slice A0_0 l0_0.length c0_0, .slice A0_1 l0_1.length c0_1] 35 ?_; clear HB; intro gb736 hg GE736 w6 BK736 hb HB; clear hb hg) | ((with_reducible refine gd 3 ?_); refine boxR w 3 #[.slice A1_0 l1_0.length c1_0, .slice A1_1 l1_1.length c1_1] 35 ?_; clear HB; intro gb737 hg GE737 w7 BK737 hb HB; obtain ⟨NB736_737, NB737_736⟩ := nb BK736 hg; replace BK736 := bk BK736 hb; clear hb hg; obtain ⟨_, _⟩ := n2 NB736_737; obtain ⟨_, _, _, _⟩ := cz2 BK736; obtain ⟨_, _, _, _⟩ := cz2 BK737) | ((with_reducible refine gc 82 ?_); refine goesQ 10 Tryz.func82 #[.slice A0_0 l0_0.length c0_0, .slice A1_0 l1_0.length c1_0] ?_; (with_reducible refine (spec_l2Comp.calls k _ _ l0_0 _ _ l1_0 t738 _ ?side1 ?side2 ?side3 ?side4 A3.out).mono ?_); (case side1 => exact cs HR0_0 HB); (case side2 => exact HC0_0.out); (case side3 => exact cs HR1_0 HB); (case side4 => exact HC1_0.out); rintro e w' ⟨rfl, ⟨nd, rfl⟩⟩; refine ⟨_, rfl, ?_⟩) | ((with_reducible refine gc 82 ?_); refine goesQ 18 Tryz.func82 #[.slice A0_1 l0_1.length c0_1, .slice A1_1 l1_1.length c1_1] ?_; (with_reducible refine (spec_l2Comp.calls k _ _ l0_1 _ _ l1_1 t739 _ ?side1 ?side2 ?side3 ?side4 A5.out).mono ?_); (case side1 => exact cq (Kd.C_below HR0_1.out hh)); (case side2 => exact HC0_1.out); (case side3 => exact cq (Kd.C_below HR1_1.out hh)); (case side4 => exact HC1_1.out); rintro e w' ⟨rfl, ⟨nd, rfl⟩⟩; refine ⟨_, rfl, ?_⟩))
  go_ret; exact ⟨z64_1, hh⟩
 rw [if_neg c4] at H; have c4b0 := beq_eq_false_iff_ne.mpr c4; have c4b1 := bne_iff_ne.mpr c4; obtain rfl := Option.some.inj H; go_enter Tryz.func64, Tryz.ntmps64; go_wp2_with (first | ((with_reducible refine gd 2 ?_); refine boxR w 2 #[.slice A0_0 l0_0.length c0_0, .slice A0_1 l0_1.length c0_1] 35 ?_; clear HB; intro gb736 hg GE736 w11 BK736 hb HB; clear hb hg) | ((with_reducible refine gd 3 ?_); refine boxR w 3 #[.slice A1_0 l1_0.length c1_0, .slice A1_1 l1_1.length c1_1] 35 ?_; clear HB; intro gb737 hg GE737 w12 BK737 hb HB; obtain ⟨NB736_737, NB737_736⟩ := nb BK736 hg; replace BK736 := bk BK736 hb; clear hb hg; obtain ⟨_, _⟩ := n2 NB736_737; obtain ⟨_, _, _, _⟩ := cz2 BK736; obtain ⟨_, _, _, _⟩ := cz2 BK737) | ((with_reducible refine gc 82 ?_); refine goesQ 10 Tryz.func82 #[.slice A0_0 l0_0.length c0_0, .slice A1_0 l1_0.length c1_0] ?_; (with_reducible refine (spec_l2Comp.calls k _ _ l0_0 _ _ l1_0 t738 _ ?side1 ?side2 ?side3 ?side4 A3.out).mono ?_); (case side1 => exact cs HR0_0 HB); (case side2 => exact HC0_0.out); (case side3 => exact cs HR1_0 HB); (case side4 => exact HC1_0.out); rintro e w' ⟨rfl, ⟨nd, rfl⟩⟩; refine ⟨_, rfl, ?_⟩))
 go_ret; exact ⟨z64_1, hh⟩
theorem z16_1 {p : Prop} (h : p := by first | (with_reducible assumption) | assumption) : p := h
theorem z16_2 {p : Prop} (h : p := by repeat (first | (with_reducible first | exact HK.out | apply KeepBut.set_ | apply keep_drewN | apply keep_drew | apply keep_alloc) | exact HK.out)) : p := h
theorem z16_3 {p : Prop} (h : p := by repeat (first | (with_reducible first | exact HI0.out | apply IsS76.alloc | apply IsS76.drewN | apply IsS76.drew | apply IsS76.set_1) | exact HI0.out)) : p := h
theorem z16_4 {p : Prop} (h : p := by repeat (first | (with_reducible first | exact HB.out | apply below_alloc | apply pw_below_drewN | apply below_drew1 | refine below_set ?_ (IsS76.ge HI0.out)) | exact HB.out)) : p := h
def spec_l6Rd_pick.j0 : Nat → Int → Bool → List Int → Int → Option (Int × Int)
  | 0, _, _, _, _ => none
  | k + 1, x1, x24, x00, x01 => if x24 = true then (some (0, x01)) else (if (wrap64 (x01 - 1)) < (x00.length : Int) then (if 0 ≤ (wrap64 (x01 - 1)) then (if x1 = 0 then (none) else (some (Int.tmod (wrap64 (rd x00 (wrap64 (x01 - 1)))) x1, x01))) else (none)) else (if (x00.length : Int) = 0 then (none) else (if 0 ≤ (Int.tmod (wrap64 (x01 - 1)) (x00.length : Int)) then (if (Int.tmod (wrap64 (x01 - 1)) (x00.length : Int)) < (x00.length : Int) then (if 0 ≤ (Int.tmod (wrap64 ((wrap64 ((wrap64 (x01 - 1)) * 7)) + 3)) (x00.length : Int)) then (if (Int.tmod (wrap64 ((wrap64 ((wrap64 (x01 - 1)) * 7)) + 3)) (x00.length : Int)) < (x00.length : Int) then (if x1 = 0 then (none) else (some (Int.tmod (Go.bits .xor .i64 (wrap64 ((wrap64 ((wrap64 ((wrap64 ((wrap64 (rd x00 (Int.tmod (wrap64 (x01 - 1)) (x00.length : Int)))) * 131)) + (wrap64 ((wrap64 (rd x00 (Int.tmod (wrap64 ((wrap64 ((wrap64 (x01 - 1)) * 7)) + 3)) (x00.length : Int)))) * 1117)))) + (wrap64 ((wrap64 (x01 - 1)) * 29)))) + (wrap64 ((wrap64 (Int.tdiv (wrap64 (x01 - 1)) (x00.length : Int))) * 53)))) (wrap64 (Int.tdiv (wrap64 ((wrap64 ((wrap64 ((wrap64 ((wrap64 (rd x00 (Int.tmod (wrap64 (x01 - 1)) (x00.length : Int)))) * 131)) + (wrap64 ((wrap64 (rd x00 (Int.tmod (wrap64 ((wrap64 ((wrap64 (x01 - 1)) * 7)) + 3)) (x00.length : Int)))) * 1117)))) + (wrap64 ((wrap64 (x01 - 1)) * 29)))) + (wrap64 ((wrap64 (Int.tdiv (wrap64 (x01 - 1)) (x00.length : Int))) * 53)))) 64))) x1, x01))) else (none)) else (none)) else (none)) else (none))))
def spec_l6Rd_pick.f (k : Nat) (s0_0 : List Int) (s0_1 : Int) (a1 : Int) : Option (Int × Int) := if a1 < 1 then (spec_l6Rd_pick.j0 k a1 true s0_0 (wrap64 (s0_1 + 1))) else (spec_l6Rd_pick.j0 k a1 ((s0_0.length : Int) == 0) s0_0 (wrap64 (s0_1 + 1)))
set_option maxHeartbeats 8000000 in
set_option maxRecDepth 100000 in
theorem spec_l6Rd_pick.calls (k : Nat) (g : Nat) (s0_0 : List Int) (s0_1 : Int) (a1 : Int) (r1 : Int) (r2 : Int) (w0 w : World) (hI : IsS76 w0 w g s0_0 s0_1) (hB : Below w0.heap.size w0 w) (h : spec_l6Rd_pick.f k s0_0 s0_1 a1 = some (r1, r2)) :
  Calls Tryz.prog 16 #[.pointer (some ⟨g, 0, none⟩), .int .i64 a1] w fun e w' => e = .returned (.int .i64 r1) ∧ IsS76 w0 w' g s0_0 r2 ∧ Below w0.heap.size w0 w' ∧ KeepBut w w' g none := by
 have HI0 := am_ hI; have HK := am_ (KeepBut.refl w g none); have HL := am_ hB.size; clear hI; have HW0 := am_ hB.size; have HB := am_ hB; clear hB; have H : (if a1 < 1 then (spec_l6Rd_pick.j0 k a1 true s0_0 (wrap64 (s0_1 + 1))) else (spec_l6Rd_pick.j0 k a1 ((s0_0.length : Int) == 0) s0_0 (wrap64 (s0_1 + 1)))) = some (r1, r2) := h; clear h; have HC3 := am_ H; clear H; obtain ⟨ASz4_0, cSz4_0, HGz4, hgz4, HSz4_0⟩ := HI0.out; have hcz4_0 := cellS76_0 HGz4; have hcz4_1 := cellS76_1 HGz4; have hfz4_1 := blk_frozen HGz4 1; clear HGz4 hgz4; go_enter Tryz.func16, Tryz.ntmps16; go_upto_region 2 with (fail)
 repeat (go_quiet (fail); go_upto_region 2 with (fail))
 go_cut [24] (fun v24 wc => ∃ (kq : Nat) (x24_2 : Bool), v24 = .bool x24_2 ∧ Aside0 (spec_l6Rd_pick.j0 kq a1 x24_2 s0_0 (wrap64 (s0_1 + 1)) = some (r1, r2)) ∧ Aside0 (kq ≤ k) ∧ Aside0 (IsS76 w0 wc g s0_0 (wrap64 (s0_1 + 1))) ∧ Aside0 (KeepBut w wc g none) ∧ Aside0 (Below w0.heap.size w0 wc))
 case first =>
  have H := HC3.out; clear HC3; by_cases c5 : a1 < 1
  ·rw [if_pos c5] at H; have c5b0 := decide_eq_true c5; clear c5; (first | rw [c5b0] | (simp only [i64_w, i32_w]; rw [c5b0]) | skip); have H' := am_ H; clear H; go_wp2; repeat (go_quiet (fail); try go_wp2)
   go_meet
   case rel => exact ⟨_, (true), (by first | rfl | (simp; done) | (simp [*]; done)), H', ⟨by first | omega | exact Nat.le_refl _⟩, ⟨z16_3⟩, ⟨z16_2⟩, ⟨z16_4⟩⟩
  rw [if_neg c5] at H; have c5b0 := decide_eq_false c5; clear c5; (first | rw [c5b0] | (simp only [i64_w, i32_w]; rw [c5b0]) | skip); have H' := am_ H; clear H; obtain ⟨ASz6_0, cSz6_0, HGz6, hgz6, HSz6_0⟩ := HI0.out; have hcz6_0 := cellS76_0 HGz6; have hcz6_1 := cellS76_1 HGz6; have hfz6_1 := blk_frozen HGz6 1; clear HGz6 hgz6; go_wp2; repeat (go_quiet (fail); try go_wp2)
  go_meet
  case rel => exact ⟨_, (((s0_0.length : Int) == 0)), (by first | rfl | (simp; done) | (simp [*]; done)), H', ⟨by first | omega | exact Nat.le_refl _⟩, ⟨z16_3⟩, ⟨z16_2⟩, ⟨z16_4⟩⟩
 case rest =>
  clear HC3; obtain ⟨kq, x24_2, rfl, HA, HJ2, HI0, HK, HB⟩ := hcut
  cases kq with
  | zero => exact absurd HA.out (by simp [spec_l6Rd_pick.j0])
  | succ kj2 =>
   have H := HA.out; clear HA; simp only [spec_l6Rd_pick.j0] at H; by_cases c7 : x24_2 = true
   ·subst c7; rw [if_pos rfl] at H; simp only [Option.some.injEq, Prod.mk.injEq] at H; obtain ⟨rfl, rfl⟩ := H; go_wp2; repeat (go_quiet (fail); try go_wp2)
    go_ret; exact ⟨by first | rfl | (simp [errW_none, errW_some] <;> rfl) | (simp [*, errW_none, errW_some] <;> rfl), z16_3, z16_4, z16_2⟩
   replace c7 := Bool.eq_false_iff.mpr c7; subst c7; rw [if_neg Bool.false_ne_true] at H; by_cases c8 : (wrap64 ((wrap64 (s0_1 + 1)) - 1)) < (s0_0.length : Int)
   ·rw [if_pos c8] at H; have c8b0 := decide_eq_true c8; clear c8; obtain ⟨ji9, hji9⟩ : ∃ j_ : Int, (wrap64 ((wrap64 (s0_1 + 1)) - 1)) = j_ := ⟨_, rfl⟩; replace H : (if 0 ≤ (ji9) then (if a1 = 0 then (none) else (some (Int.tmod (wrap64 (rd s0_0 (ji9))) a1, (wrap64 (s0_1 + 1))))) else (none)) = some (r1, r2) := by first | (rw [hji9] at H; exact H) | (simp only [hji9] at H ⊢; exact H)
    (try rw [hji9] at c8b0); have hji9w : (IntKind.i64.wrap ((wrap64 (s0_1 + 1)) - 1)) = ji9 := (i64_w _).trans hji9; by_cases c10 : 0 ≤ (ji9)
    ·rw [if_pos c10] at H; have c10b0 := decide_eq_true c10; clear c10; by_cases c11 : a1 = 0
     ·rw [if_pos c11] at H; exact absurd H (by simp)
     rw [if_neg c11] at H; have c11b0 := beq_eq_false_iff_ne.mpr c11; have c11b1 := bne_iff_ne.mpr c11; simp only [Option.some.injEq, Prod.mk.injEq] at H; obtain ⟨rfl, rfl⟩ := H; obtain ⟨ASz12_0, cSz12_0, HGz12, hgz12, HSz12_0⟩ := HI0.out; have hcz12_0 := cellS76_0 HGz12; have hcz12_1 := cellS76_1 HGz12; have hfz12_1 := blk_frozen HGz12 1; clear HGz12 hgz12; have p178 : 0 ≤ ((ji9) : Int) := of_decide_eq_true z16_1; have q178 : (ji9) < (s0_0.length : Int) := of_decide_eq_true z16_1; obtain ⟨ad178, e178, hx178_0⟩ := Kd.at_int HSz12_0 (ji9) p178 q178; cases e178; replace hx178_0 := pw_cell_below HB.out hx178_0; replace p178 := eq_true p178; replace q178 := eq_true q178; go_wp2; repeat (go_quiet (fail); try go_wp2)
     go_ret; exact ⟨by first | rfl | (simp [errW_none, errW_some] <;> rfl) | (simp only [← hji9]; first | rfl | (simp [errW_none, errW_some] <;> rfl)) | (simp [*, errW_none, errW_some] <;> rfl), z16_3, z16_4, z16_2⟩
    rw [if_neg c10] at H; exact absurd H (by simp)
   rw [if_neg c8] at H; have c8b0 := decide_eq_false c8; clear c8; by_cases c13 : (s0_0.length : Int) = 0
   ·rw [if_pos c13] at H; exact absurd H (by simp)
   rw [if_neg c13] at H; have c13b0 := beq_eq_false_iff_ne.mpr c13; have c13b1 := bne_iff_ne.mpr c13; have c13b2 : ¬ (s0_0 = []) := fun h_ => c13 (by rw [h_]; rfl); obtain ⟨ji14, hji14⟩ : ∃ j_ : Int, (Int.tmod (wrap64 ((wrap64 (s0_1 + 1)) - 1)) (s0_0.length : Int)) = j_ := ⟨_, rfl⟩; replace H : (if 0 ≤ (ji14) then (if (ji14) < (s0_0.length : Int) then (if 0 ≤ (Int.tmod (wrap64 ((wrap64 ((wrap64 ((wrap64 (s0_1 + 1)) - 1)) * 7)) + 3)) (s0_0.length : Int)) then (if (Int.tmod (wrap64 ((wrap64 ((wrap64 ((wrap64 (s0_1 + 1)) - 1)) * 7)) + 3)) (s0_0.length : Int)) < (s0_0.length : Int) then (if a1 = 0 then (none) else (some (Int.tmod (Go.bits .xor .i64 (wrap64 ((wrap64 ((wrap64 ((wrap64 ((wrap64 (rd s0_0 (ji14))) * 131)) + (wrap64 ((wrap64 (rd s0_0 (Int.tmod (wrap64 ((wrap64 ((wrap64 ((wrap64 (s0_1 + 1)) - 1)) * 7)) + 3)) (s0_0.length : Int)))) * 1117)))) + (wrap64 ((wrap64 ((wrap64 (s0_1 + 1)) - 1)) * 29)))) + (wrap64 ((wrap64 (Int.tdiv (wrap64 ((wrap64 (s0_1 + 1)) - 1)) (s0_0.length : Int))) * 53)))) (wrap64 (Int.tdiv (wrap64 ((wrap64 ((wrap64 ((wrap64 ((wrap64 (rd s0_0 (ji14))) * 131)) + (wrap64 ((wrap64 (rd s0_0 (Int.tmod (wrap64 ((wrap64 ((wrap64 ((wrap64 (s0_1 + 1)) - 1)) * 7)) + 3)) (s0_0.length : Int)))) * 1117)))) + (wrap64 ((wrap64 ((wrap64 (s0_1 + 1)) - 1)) * 29)))) + (wrap64 ((wrap64 (Int.tdiv (wrap64 ((wrap64 (s0_1 + 1)) - 1)) (s0_0.length : Int))) * 53)))) 64))) a1, (wrap64 (s0_1 + 1))))) else (none)) else (none)) else (none)) else (none)) = some (r1, r2) := by first | (rw [hji14] at H; exact H) | (simp only [hji14] at H ⊢; exact H)
   by_cases c15 : 0 ≤ (ji14)
   ·rw [if_pos c15] at H; have c15b0 := decide_eq_true c15; clear c15; by_cases c16 : (ji14) < (s0_0.length : Int)
    ·rw [if_pos c16] at H; have c16b0 := decide_eq_true c16; clear c16; obtain ⟨ji17, hji17⟩ : ∃ j_ : Int, (Int.tmod (wrap64 ((wrap64 ((wrap64 ((wrap64 (s0_1 + 1)) - 1)) * 7)) + 3)) (s0_0.length : Int)) = j_ := ⟨_, rfl⟩; replace H : (if 0 ≤ (ji17) then (if (ji17) < (s0_0.length : Int) then (if a1 = 0 then (none) else (some (Int.tmod (Go.bits .xor .i64 (wrap64 ((wrap64 ((wrap64 ((wrap64 ((wrap64 (rd s0_0 (ji14))) * 131)) + (wrap64 ((wrap64 (rd s0_0 (ji17))) * 1117)))) + (wrap64 ((wrap64 ((wrap64 (s0_1 + 1)) - 1)) * 29)))) + (wrap64 ((wrap64 (Int.tdiv (wrap64 ((wrap64 (s0_1 + 1)) - 1)) (s0_0.length : Int))) * 53)))) (wrap64 (Int.tdiv (wrap64 ((wrap64 ((wrap64 ((wrap64 ((wrap64 (rd s0_0 (ji14))) * 131)) + (wrap64 ((wrap64 (rd s0_0 (ji17))) * 1117)))) + (wrap64 ((wrap64 ((wrap64 (s0_1 + 1)) - 1)) * 29)))) + (wrap64 ((wrap64 (Int.tdiv (wrap64 ((wrap64 (s0_1 + 1)) - 1)) (s0_0.length : Int))) * 53)))) 64))) a1, (wrap64 (s0_1 + 1))))) else (none)) else (none)) = some (r1, r2) := by first | (rw [hji17] at H; exact H) | (simp only [hji17] at H ⊢; exact H)
     by_cases c18 : 0 ≤ (ji17)
     ·rw [if_pos c18] at H; have c18b0 := decide_eq_true c18; clear c18; by_cases c19 : (ji17) < (s0_0.length : Int)
      ·rw [if_pos c19] at H; have c19b0 := decide_eq_true c19; clear c19; by_cases c20 : a1 = 0
       ·rw [if_pos c20] at H; exact absurd H (by simp)
       rw [if_neg c20] at H; have c20b0 := beq_eq_false_iff_ne.mpr c20; have c20b1 := bne_iff_ne.mpr c20; simp only [Option.some.injEq, Prod.mk.injEq] at H; obtain ⟨rfl, rfl⟩ := H; obtain ⟨ASz21_0, cSz21_0, HGz21, hgz21, HSz21_0⟩ := HI0.out; have hcz21_0 := cellS76_0 HGz21; have hcz21_1 := cellS76_1 HGz21; have hfz21_1 := blk_frozen HGz21 1; clear HGz21 hgz21; have p179 : 0 ≤ ((ji14) : Int) := of_decide_eq_true z16_1; have q179 : (ji14) < (s0_0.length : Int) := of_decide_eq_true z16_1; obtain ⟨ad179, e179, hx179_0⟩ := Kd.at_int HSz21_0 (ji14) p179 q179; cases e179; replace hx179_0 := pw_cell_below HB.out hx179_0; replace p179 := eq_true p179; replace q179 := eq_true q179; have p180 : 0 ≤ ((ji17) : Int) := of_decide_eq_true z16_1; have q180 : (ji17) < (s0_0.length : Int) := of_decide_eq_true z16_1; obtain ⟨ad180, e180, hx180_0⟩ := Kd.at_int HSz21_0 (ji17) p180 q180; obtain rfl : ad179 = ad180 := (by injection e180); replace hx180_0 := pw_cell_below HB.out hx180_0; replace p180 := eq_true p180; replace q180 := eq_true q180; go_wp2; repeat (go_quiet (fail); try go_wp2)
       go_ret; exact ⟨by first | rfl | (simp [errW_none, errW_some] <;> rfl) | (simp only [← hji14, ← hji17]; first | rfl | (simp [errW_none, errW_some] <;> rfl)) | (simp [*, errW_none, errW_some] <;> rfl), z16_3, z16_4, z16_2⟩
      rw [if_neg c19] at H; exact absurd H (by simp)
     rw [if_neg c18] at H; exact absurd H (by simp)
    rw [if_neg c16] at H; exact absurd H (by simp)
   rw [if_neg c15] at H; exact absurd H (by simp)
end Go.Proofs.YtmkchdlkpbnldaaGreatDoor.PB

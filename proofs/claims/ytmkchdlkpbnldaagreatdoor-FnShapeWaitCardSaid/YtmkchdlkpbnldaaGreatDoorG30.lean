/- What the laws share, part 30: ShapeNone PBx48 GraphOf. -/
import Derived.Test.YtmkchdlkpbnldaaGreatDoorG21
import Derived.Test.YtmkchdlkpbnldaaGreatDoorG17
import Derived.Test.YtmkchdlkpbnldaaGreatDoorG28
import Derived.Test.YtmkchdlkpbnldaaGreatDoorG4
import Derived.Test.YtmkchdlkpbnldaaGreatDoorG8
import Derived.Test.YtmkchdlkpbnldaaGreatDoorG14
import Derived.Test.YtmkchdlkpbnldaaGreatDoorG29
import Derived.StillTailTactics
namespace Go.Proofs.YtmkchdlkpbnldaaGreatDoor.Pure
open Go.RowKit Go.Proofs.YtmkchdlkpbnldaaGreatDoor.PB Go.Proofs.YtmkchdlkpbnldaaGreatDoorW.PrintWords Go.Proofs.YtmkchdlkpbnldaaGreatDoorW.PrintLast
theorem specShape_none (k : Nat) (s h : Int) (hc : ¬ ((1 ≤ s ∧ s ≤ 6) ∧ (0 ≤ h ∧ h ≤ 3))) : spec_ShapeOf.f (k + 1) s h = some ([], false) := by
  unfold spec_ShapeOf.f spec_l6In.f
  by_cases h1 : s ≥ 1
  · rw [if_pos h1]
    by_cases h6 : s ≤ 6
    · simp only [h6, decide_true, Option.bind_some, if_true]
      by_cases g0 : h ≥ 0
      · have g3 : ¬ h ≤ 3 := by omega
        rw [if_pos g0]
        simp [g3, spec_ShapeOf.j0]
      · rw [if_neg g0]
        simp [spec_ShapeOf.j0]
    · simp [h6, spec_ShapeOf.j0]
  · rw [if_neg h1]
    simp [spec_ShapeOf.j0]
theorem implShape_none (s h : Int) (hc : ¬ ((1 ≤ s ∧ s ≤ 6) ∧ (0 ≤ h ∧ h ≤ 3))) : impl_ShapeOf.f s h = some ([], false) := by
  unfold impl_ShapeOf.f; exact if_neg hc
end Go.Proofs.YtmkchdlkpbnldaaGreatDoor.Pure
namespace Go.Proofs.YtmkchdlkpbnldaaGreatDoor.PB
open Go.RowKit Go.Proofs.YtmkchdlkpbnldaaGreatDoorW.PrintWords Go.Proofs.YtmkchdlkpbnldaaGreatDoorW.PrintLast Go.Proofs.YtmkchdlkpbnldaaGreatDoorW.PrintMore
attribute [local go_sem] max2_int min2_int max_two min_two max_three min_three max_four min_four
open Go.Proofs.YtmkchdlkpbnldaaGreatDoorMine
set_option linter.unusedVariables false
set_option linter.unusedSimpArgs false
theorem z48_1 {p : Prop} (h : p := by first | rfl | (simp; done) | (simp [*]; done)) : p := h
theorem z48_2 {p : Prop} (h : p := by first | (with_reducible assumption) | assumption) : p := h
theorem z48_3 {p : Prop} (h : p := by first | rfl | (simp [errW_none, errW_some] <;> rfl) | (simp [*, errW_none, errW_some] <;> rfl)) : p := h
def impl_scene_ok.l0 : Nat → List (S45) → Int → Int → List (List (S45)) → List (S87) → List (S45) → List Int → List (List Int) → Option (Bool)
  | 0, _, _, _, _, _, _, _, _ => none
  | k + 1, x14, x15, x16, x00, x01, x02, x03, x04 => if x16 < x15 then (if 0 ≤ x16 then (if x16 < (x14.length : Int) then ((impl_Do_uses.f ((rd_T45 x14 x16).f0) ((rd_T45 x14 x16).f1) ((rd_T45 x14 x16).f2)).bind fun t631 => (if t631 = true then ((impl_scene_value.f k x00 x01 x02 x03 x04 x16).bind fun bt632 => (if bt632.2 = true then (impl_scene_ok.l0 k x14 x15 (wrap64 (x16 + 1)) x00 x01 x02 x03 x04) else (some false))) else (impl_scene_ok.l0 k x14 x15 (wrap64 (x16 + 1)) x00 x01 x02 x03 x04))) else (none)) else (none)) else (some true)
def impl_scene_ok.f (k : Nat) (l0_0 : List (List (S45))) (l0_1 : List (S87)) (l0_2 : List (S45)) (l1_0 : List Int) (l1_1 : List (List Int)) : Option (Bool) := (impl_scene_fits.f k l0_0 l0_1 l0_2 l1_0 l1_1).bind fun t628 => (if t628 = true then (impl_scene_ok.l0 k l0_2 (l0_2.length : Int) 0 l0_0 l0_1 l0_2 l1_0 l1_1) else (some false))
set_option maxHeartbeats 8000000 in
set_option maxRecDepth 100000 in
theorem impl_scene_ok.calls (k : Nat) (A0_0 : Option Addr) (c0_0 : Nat) (l0_0 : List (List (S45))) (A0_1 : Option Addr) (c0_1 : Nat) (l0_1 : List (S87)) (A0_2 : Option Addr) (c0_2 : Nat) (l0_2 : List (S45)) (A1_0 : Option Addr) (c1_0 : Nat) (l1_0 : List Int) (A1_1 : Option Addr) (c1_1 : Nat) (l1_1 : List (List Int)) (r : Bool) (w : World) (hr0_0 : Kd.C (Kd.slice 45 k45) w A0_0 l0_0.length l0_0) (hc0_0 : l0_0.length ≤ c0_0) (hr0_1 : Kd.C k87 w A0_1 l0_1.length l0_1) (hc0_1 : l0_1.length ≤ c0_1) (hr0_2 : Kd.C k45 w A0_2 l0_2.length l0_2) (hc0_2 : l0_2.length ≤ c0_2) (hr1_0 : Kd.C (Kd.int .i64) w A1_0 l1_0.length l1_0) (hc1_0 : l1_0.length ≤ c1_0) (hr1_1 : Kd.C (Kd.slice 3 (Kd.int .i64)) w A1_1 l1_1.length l1_1) (hc1_1 : l1_1.length ≤ c1_1) (h : impl_scene_ok.f k l0_0 l0_1 l0_2 l1_0 l1_1 = some r) :
  Calls Tryz.prog 48 #[.agg #[.slice A0_0 l0_0.length c0_0, .slice A0_1 l0_1.length c0_1, .slice A0_2 l0_2.length c0_2], .agg #[.slice A1_0 l1_0.length c1_0, .slice A1_1 l1_1.length c1_1]] w fun e w' => e = .returned (.bool r) ∧ Below w.heap.size w w' := by
 have hu59 := Tryz.underlying59; have hu65 := Tryz.underlying65; have hu45 := Tryz.underlying45; have HR0_0 := am_ hr0_0; have HC0_0 := am_ hc0_0; clear hr0_0 hc0_0; have HR0_1 := am_ hr0_1; have HC0_1 := am_ hc0_1; clear hr0_1 hc0_1; have HR0_2 := am_ hr0_2; have HC0_2 := am_ hc0_2; clear hr0_2 hc0_2; have HR1_0 := am_ hr1_0; have HC1_0 := am_ hc1_0; clear hr1_0 hc1_0; have HR1_1 := am_ hr1_1; have HC1_1 := am_ hc1_1; clear hr1_1 hc1_1; have HB := am_ (Below.refl w.heap.size w); have H : ((impl_scene_fits.f k l0_0 l0_1 l0_2 l1_0 l1_1).bind fun t628 => (if t628 = true then (impl_scene_ok.l0 k l0_2 (l0_2.length : Int) 0 l0_0 l0_1 l0_2 l1_0 l1_1) else (some false))) = some r := h; clear h; replace H := Option.bind_eq_some_iff.mp H; obtain ⟨t628, A30, H⟩ := H; replace H : (if t628 = true then (impl_scene_ok.l0 k l0_2 (l0_2.length : Int) 0 l0_0 l0_1 l0_2 l1_0 l1_1) else (some false)) = some r := H; have A3 := am_ A30; clear A30; by_cases c4 : t628 = true
 ·subst c4; rw [if_pos rfl] at H; have H' := am_ H; clear H; go_enter Tryz.func48, Tryz.ntmps48; go_wp2_with (first | ((with_reducible refine gd 2 ?_); refine boxR w 2 #[.slice A0_0 l0_0.length c0_0, .slice A0_1 l0_1.length c0_1, .slice A0_2 l0_2.length c0_2] 59 ?_; clear HB; intro gb626 hg GE626 w5 BK626 hb HB; clear hb hg) | ((with_reducible refine gd 3 ?_); refine boxR w 3 #[.slice A1_0 l1_0.length c1_0, .slice A1_1 l1_1.length c1_1] 65 ?_; clear HB; intro gb627 hg GE627 w6 BK627 hb HB; obtain ⟨NB626_627, NB627_626⟩ := nb BK626 hg; replace BK626 := bk BK626 hb; clear hb hg; obtain ⟨_, _⟩ := n2 NB626_627; obtain ⟨_, _, _, _, _, _⟩ := cz3 BK626; obtain ⟨_, _, _, _⟩ := cz2 BK627) | ((with_reducible refine gc 69 ?_); refine goesQ 11 Tryz.func69 #[.agg #[.slice A0_0 l0_0.length c0_0, .slice A0_1 l0_1.length c0_1, .slice A0_2 l0_2.length c0_2], .agg #[.slice A1_0 l1_0.length c1_0, .slice A1_1 l1_1.length c1_1]] ?_; (with_reducible refine (impl_scene_fits.calls k _ _ l0_0 _ _ l0_1 _ _ l0_2 _ _ l1_0 _ _ l1_1 true _ ?side1 ?side2 ?side3 ?side4 ?side5 ?side6 ?side7 ?side8 ?side9 ?side10 A3.out).mono ?_); (case side1 => exact cs HR0_0 HB); (case side2 => exact HC0_0.out); (case side3 => exact cs HR0_1 HB); (case side4 => exact HC0_1.out); (case side5 => exact cs HR0_2 HB); (case side6 => exact HC0_2.out); (case side7 => exact cs HR1_0 HB); (case side8 => exact HC1_0.out); (case side9 => exact cs HR1_1 HB); (case side10 => exact HC1_1.out); rintro e w10 ⟨rfl, hb⟩; refine ⟨_, rfl, ?_⟩; replace BK626 := bk BK626 hb; replace BK627 := bk BK627 hb; replace HB := hs hb; clear hb; obtain ⟨_, _, _, _, _, _⟩ := cz3 BK626))
  go_loopg [16] k (fun kq v16 w' => ∃ (x16_1 : Int), v16 = .int .i64 x16_1 ∧ Aside0 (impl_scene_ok.l0 kq l0_2 (l0_2.length : Int) x16_1 l0_0 l0_1 l0_2 l1_0 l1_1 = some r) ∧ Aside0 (kq ≤ k) ∧ Aside0 (w'.heap[gb626]? = some (.cells #[(.slice A0_0 l0_0.length c0_0), (.slice A0_1 l0_1.length c0_1), (.slice A0_2 l0_2.length c0_2)] 59 (0, 0))) ∧ Aside0 (w'.heap[gb627]? = some (.cells #[(.slice A1_0 l1_0.length c1_0), (.slice A1_1 l1_1.length c1_1)] 65 (0, 0))) ∧ Aside0 (Below w.heap.size w w'))
  case atStart => exact ⟨(0), z48_1, H', ⟨Nat.le_refl _⟩, ⟨bu BK626.out⟩, ⟨bu BK627.out⟩, ⟨hh⟩⟩
  case round =>
   clear H'; obtain ⟨x16_1, rfl, HA, HK1, BK626, BK627, HB⟩ := hrel
   cases gk with
   | zero => exact absurd HA.out (by simp [impl_scene_ok.l0])
   | succ k1 =>
    have H := HA.out; clear HA; simp only [impl_scene_ok.l0] at H; by_cases c12 : x16_1 < (l0_2.length : Int)
    ·rw [if_pos c12] at H; have c12b0 := decide_eq_true c12; clear c12; by_cases c13 : 0 ≤ x16_1
     ·rw [if_pos c13] at H; have c13b0 := decide_eq_true c13; clear c13; by_cases c14 : x16_1 < (l0_2.length : Int)
      ·rw [if_pos c14] at H; have c14b0 := decide_eq_true c14; clear c14; replace H := Option.bind_eq_some_iff.mp H; obtain ⟨t631, A150, H⟩ := H; replace H : (if t631 = true then ((impl_scene_value.f k1 l0_0 l0_1 l0_2 l1_0 l1_1 x16_1).bind fun bt632 => (if bt632.2 = true then (impl_scene_ok.l0 k1 l0_2 (l0_2.length : Int) (wrap64 (x16_1 + 1)) l0_0 l0_1 l0_2 l1_0 l1_1) else (some false))) else (impl_scene_ok.l0 k1 l0_2 (l0_2.length : Int) (wrap64 (x16_1 + 1)) l0_0 l0_1 l0_2 l1_0 l1_1)) = some r := H; have A15 := am_ A150; clear A150; by_cases c16 : t631 = true
       ·subst c16; rw [if_pos rfl] at H; replace H := Option.bind_eq_some_iff.mp H; obtain ⟨⟨t632, t633⟩, A170, H⟩ := H; replace H : (if t633 = true then (impl_scene_ok.l0 k1 l0_2 (l0_2.length : Int) (wrap64 (x16_1 + 1)) l0_0 l0_1 l0_2 l1_0 l1_1) else (some false)) = some r := H; have A17 := am_ A170; clear A170; by_cases c18 : t633 = true
        ·subst c18; rw [if_pos rfl] at H; have H' := am_ H; clear H; have p629 : 0 ≤ (x16_1 : Int) := of_decide_eq_true z48_2; have q629 : x16_1 < (l0_2.length : Int) := of_decide_eq_true z48_2; obtain ⟨ad629, e629, hx629_0, hx629_1, hx629_2⟩ := at_T45 HR0_2.out x16_1 p629 q629; cases e629; replace hx629_0 := xc HB hx629_0; replace hx629_1 := xc HB hx629_1; replace hx629_2 := xc HB hx629_2; replace p629 := eq_true p629; replace q629 := eq_true q629; go_wp2_with (first | ((with_reducible refine gd 6 ?_); refine boxR w 6 #[.int .i64 0, .int .i64 0, .int .i64 0] 45 ?_; clear HB; intro gb630 hg GE630 w19 BK630 hb HB; obtain ⟨NB626_630, NB630_626⟩ := nb BK626 hg; obtain ⟨NB627_630, NB630_627⟩ := nb BK627 hg; replace BK626 := bk BK626 hb; replace BK627 := bk BK627 hb; clear hb hg; obtain ⟨_, _⟩ := n2 NB630_626; obtain ⟨_, _⟩ := n2 NB630_627; obtain ⟨_, _, _, _, _, _⟩ := cz3 BK630) | ((with_reducible refine gc 43 ?_); refine goesQ 22 Tryz.func43 #[.agg #[.int .i64 ((rd_T45 l0_2 x16_1).f0), .int .i64 ((rd_T45 l0_2 x16_1).f1), .int .i64 ((rd_T45 l0_2 x16_1).f2)]] ?_; (with_reducible refine (impl_Do_uses.calls ((rd_T45 l0_2 x16_1).f0) ((rd_T45 l0_2 x16_1).f1) ((rd_T45 l0_2 x16_1).f2) true _ A15.out).mono ?_); rintro e w23 ⟨rfl, hb⟩; refine ⟨_, rfl, ?_⟩; replace BK626 := bf BK626 hb; replace BK627 := bf BK627 hb; replace BK630 := bo gb630 45 #[.int .i64 ((rd_T45 l0_2 x16_1).f0), .int .i64 ((rd_T45 l0_2 x16_1).f1), .int .i64 ((rd_T45 l0_2 x16_1).f2)] hb; replace HB := hs hb; clear hb; obtain ⟨_, _⟩ := n2 NB626_627; obtain ⟨_, _, _, _, _, _⟩ := cz3 BK626; obtain ⟨_, _, _, _⟩ := cz2 BK627) | ((with_reducible refine gc 58 ?_); refine goesQ 28 Tryz.func58 #[.agg #[.slice A0_0 l0_0.length c0_0, .slice A0_1 l0_1.length c0_1, .slice (some ad629) l0_2.length c0_2], .agg #[.slice A1_0 l1_0.length c1_0, .slice A1_1 l1_1.length c1_1], .int .i64 x16_1] ?_; (with_reducible refine (impl_scene_value.calls k1 _ _ l0_0 _ _ l0_1 _ _ l0_2 _ _ l1_0 _ _ l1_1 x16_1 t632 true _ ?side1 ?side2 ?side3 ?side4 ?side5 ?side6 ?side7 ?side8 ?side9 ?side10 A17.out).mono ?_); (case side1 => exact cs HR0_0 HB); (case side2 => exact HC0_0.out); (case side3 => exact cs HR0_1 HB); (case side4 => exact HC0_1.out); (case side5 => exact cs HR0_2 HB); (case side6 => exact HC0_2.out); (case side7 => exact cs HR1_0 HB); (case side8 => exact HC1_0.out); (case side9 => exact cs HR1_1 HB); (case side10 => exact HC1_1.out); rintro e w27 ⟨rfl, hb⟩; refine ⟨_, rfl, ?_⟩; replace BK626 := bk BK626 hb; replace BK627 := bk BK627 hb; replace BK630 := bk BK630 hb; replace HB := hs hb; clear hb))
         go_roundg k1
         case measure => have := HK1.out; omega
         case rel => exact ⟨(wrap64 (x16_1 + 1)), z48_1, H', ⟨by have := HK1.out; omega⟩, ⟨bu BK626.out⟩, ⟨bu BK627.out⟩, ⟨hh⟩⟩
        replace c18 := Bool.eq_false_iff.mpr c18; subst c18; rw [if_neg Bool.false_ne_true] at H; obtain rfl := Option.some.inj H; have p629 : 0 ≤ (x16_1 : Int) := of_decide_eq_true z48_2; have q629 : x16_1 < (l0_2.length : Int) := of_decide_eq_true z48_2; obtain ⟨ad629, e629, hx629_0, hx629_1, hx629_2⟩ := at_T45 HR0_2.out x16_1 p629 q629; cases e629; replace hx629_0 := xc HB hx629_0; replace hx629_1 := xc HB hx629_1; replace hx629_2 := xc HB hx629_2; replace p629 := eq_true p629; replace q629 := eq_true q629; go_wp2_with (first | ((with_reducible refine gd 6 ?_); refine boxR w 6 #[.int .i64 0, .int .i64 0, .int .i64 0] 45 ?_; clear HB; intro gb630 hg GE630 w28 BK630 hb HB; obtain ⟨NB626_630, NB630_626⟩ := nb BK626 hg; obtain ⟨NB627_630, NB630_627⟩ := nb BK627 hg; replace BK626 := bk BK626 hb; replace BK627 := bk BK627 hb; clear hb hg; obtain ⟨_, _⟩ := n2 NB630_626; obtain ⟨_, _⟩ := n2 NB630_627; obtain ⟨_, _, _, _, _, _⟩ := cz3 BK630) | ((with_reducible refine gc 43 ?_); refine goesQ 22 Tryz.func43 #[.agg #[.int .i64 ((rd_T45 l0_2 x16_1).f0), .int .i64 ((rd_T45 l0_2 x16_1).f1), .int .i64 ((rd_T45 l0_2 x16_1).f2)]] ?_; (with_reducible refine (impl_Do_uses.calls ((rd_T45 l0_2 x16_1).f0) ((rd_T45 l0_2 x16_1).f1) ((rd_T45 l0_2 x16_1).f2) true _ A15.out).mono ?_); rintro e w32 ⟨rfl, hb⟩; refine ⟨_, rfl, ?_⟩; replace BK626 := bf BK626 hb; replace BK627 := bf BK627 hb; replace BK630 := bo gb630 45 #[.int .i64 ((rd_T45 l0_2 x16_1).f0), .int .i64 ((rd_T45 l0_2 x16_1).f1), .int .i64 ((rd_T45 l0_2 x16_1).f2)] hb; replace HB := hs hb; clear hb; obtain ⟨_, _⟩ := n2 NB626_627; obtain ⟨_, _, _, _, _, _⟩ := cz3 BK626; obtain ⟨_, _, _, _⟩ := cz2 BK627) | ((with_reducible refine gc 58 ?_); refine goesQ 28 Tryz.func58 #[.agg #[.slice A0_0 l0_0.length c0_0, .slice A0_1 l0_1.length c0_1, .slice (some ad629) l0_2.length c0_2], .agg #[.slice A1_0 l1_0.length c1_0, .slice A1_1 l1_1.length c1_1], .int .i64 x16_1] ?_; (with_reducible refine (impl_scene_value.calls k1 _ _ l0_0 _ _ l0_1 _ _ l0_2 _ _ l1_0 _ _ l1_1 x16_1 t632 false _ ?side1 ?side2 ?side3 ?side4 ?side5 ?side6 ?side7 ?side8 ?side9 ?side10 A17.out).mono ?_); (case side1 => exact cs HR0_0 HB); (case side2 => exact HC0_0.out); (case side3 => exact cs HR0_1 HB); (case side4 => exact HC0_1.out); (case side5 => exact cs HR0_2 HB); (case side6 => exact HC0_2.out); (case side7 => exact cs HR1_0 HB); (case side8 => exact HC1_0.out); (case side9 => exact cs HR1_1 HB); (case side10 => exact HC1_1.out); rintro e w36 ⟨rfl, hb⟩; refine ⟨_, rfl, ?_⟩; replace BK626 := bk BK626 hb; replace BK627 := bk BK627 hb; replace BK630 := bk BK630 hb; replace HB := hs hb; clear hb))
        go_ret; exact ⟨z48_3, hh⟩
       replace c16 := Bool.eq_false_iff.mpr c16; subst c16; rw [if_neg Bool.false_ne_true] at H; have H' := am_ H; clear H; have p629 : 0 ≤ (x16_1 : Int) := of_decide_eq_true z48_2; have q629 : x16_1 < (l0_2.length : Int) := of_decide_eq_true z48_2; obtain ⟨ad629, e629, hx629_0, hx629_1, hx629_2⟩ := at_T45 HR0_2.out x16_1 p629 q629; cases e629; replace hx629_0 := xc HB hx629_0; replace hx629_1 := xc HB hx629_1; replace hx629_2 := xc HB hx629_2; replace p629 := eq_true p629; replace q629 := eq_true q629; go_wp2_with (first | ((with_reducible refine gd 6 ?_); refine boxR w 6 #[.int .i64 0, .int .i64 0, .int .i64 0] 45 ?_; clear HB; intro gb630 hg GE630 w37 BK630 hb HB; obtain ⟨NB626_630, NB630_626⟩ := nb BK626 hg; obtain ⟨NB627_630, NB630_627⟩ := nb BK627 hg; replace BK626 := bk BK626 hb; replace BK627 := bk BK627 hb; clear hb hg; obtain ⟨_, _⟩ := n2 NB630_626; obtain ⟨_, _⟩ := n2 NB630_627; obtain ⟨_, _, _, _, _, _⟩ := cz3 BK630) | ((with_reducible refine gc 43 ?_); refine goesQ 22 Tryz.func43 #[.agg #[.int .i64 ((rd_T45 l0_2 x16_1).f0), .int .i64 ((rd_T45 l0_2 x16_1).f1), .int .i64 ((rd_T45 l0_2 x16_1).f2)]] ?_; (with_reducible refine (impl_Do_uses.calls ((rd_T45 l0_2 x16_1).f0) ((rd_T45 l0_2 x16_1).f1) ((rd_T45 l0_2 x16_1).f2) false _ A15.out).mono ?_); rintro e w41 ⟨rfl, hb⟩; refine ⟨_, rfl, ?_⟩; replace BK626 := bf BK626 hb; replace BK627 := bf BK627 hb; replace BK630 := bo gb630 45 #[.int .i64 ((rd_T45 l0_2 x16_1).f0), .int .i64 ((rd_T45 l0_2 x16_1).f1), .int .i64 ((rd_T45 l0_2 x16_1).f2)] hb; replace HB := hs hb; clear hb))
       go_roundg k1
       case measure => have := HK1.out; omega
       case rel => exact ⟨(wrap64 (x16_1 + 1)), z48_1, H', ⟨by have := HK1.out; omega⟩, ⟨bu BK626.out⟩, ⟨bu BK627.out⟩, ⟨hh⟩⟩
      rw [if_neg c14] at H; exact absurd H (by simp)
     rw [if_neg c13] at H; exact absurd H (by simp)
    rw [if_neg c12] at H; have c12b0 := decide_eq_false c12; clear c12; obtain rfl := Option.some.inj H; go_wp2; go_ret; exact ⟨z48_3, hh⟩
 replace c4 := Bool.eq_false_iff.mpr c4; subst c4; rw [if_neg Bool.false_ne_true] at H; obtain rfl := Option.some.inj H; go_enter Tryz.func48, Tryz.ntmps48; go_wp2_with (first | ((with_reducible refine gd 2 ?_); refine boxR w 2 #[.slice A0_0 l0_0.length c0_0, .slice A0_1 l0_1.length c0_1, .slice A0_2 l0_2.length c0_2] 59 ?_; clear HB; intro gb626 hg GE626 w42 BK626 hb HB; clear hb hg) | ((with_reducible refine gd 3 ?_); refine boxR w 3 #[.slice A1_0 l1_0.length c1_0, .slice A1_1 l1_1.length c1_1] 65 ?_; clear HB; intro gb627 hg GE627 w43 BK627 hb HB; obtain ⟨NB626_627, NB627_626⟩ := nb BK626 hg; replace BK626 := bk BK626 hb; clear hb hg; obtain ⟨_, _⟩ := n2 NB626_627; obtain ⟨_, _, _, _, _, _⟩ := cz3 BK626; obtain ⟨_, _, _, _⟩ := cz2 BK627) | ((with_reducible refine gc 69 ?_); refine goesQ 11 Tryz.func69 #[.agg #[.slice A0_0 l0_0.length c0_0, .slice A0_1 l0_1.length c0_1, .slice A0_2 l0_2.length c0_2], .agg #[.slice A1_0 l1_0.length c1_0, .slice A1_1 l1_1.length c1_1]] ?_; (with_reducible refine (impl_scene_fits.calls k _ _ l0_0 _ _ l0_1 _ _ l0_2 _ _ l1_0 _ _ l1_1 false _ ?side1 ?side2 ?side3 ?side4 ?side5 ?side6 ?side7 ?side8 ?side9 ?side10 A3.out).mono ?_); (case side1 => exact cs HR0_0 HB); (case side2 => exact HC0_0.out); (case side3 => exact cs HR0_1 HB); (case side4 => exact HC0_1.out); (case side5 => exact cs HR0_2 HB); (case side6 => exact HC0_2.out); (case side7 => exact cs HR1_0 HB); (case side8 => exact HC1_0.out); (case side9 => exact cs HR1_1 HB); (case side10 => exact HC1_1.out); rintro e w47 ⟨rfl, hb⟩; refine ⟨_, rfl, ?_⟩; replace BK626 := bk BK626 hb; replace BK627 := bk BK627 hb; replace HB := hs hb; clear hb))
 go_ret; exact ⟨z48_3, hh⟩
end Go.Proofs.YtmkchdlkpbnldaaGreatDoor.PB
namespace Go.Proofs.YtmkchdlkpbnldaaGreatDoor.PB
open Go.RowKit Go.Proofs.YtmkchdlkpbnldaaGreatDoorW.PrintWords Go.Proofs.YtmkchdlkpbnldaaGreatDoorW.PrintLast Go.Proofs.YtmkchdlkpbnldaaGreatDoorW.PrintMore
open Go.Proofs.YtmkchdlkpbnldaaGreatDoorMine
set_option linter.unusedVariables false
set_option linter.unusedSimpArgs false
def gRow (R : Int → Int → Bool) (a : Int) : Nat → Int
  | 0 => 0
  | b + 1 => if R a b = true then Go.bits .or .u64 (gRow R a b) (shl .u64 1 b) else gRow R a b
def gAt (R : Int → Int → Bool) (n m j : Nat) : List Int := (List.range n).map fun (a : Nat) => if a < m then gRow R a n else if a = m then gRow R a j else 0
def gOf (R : Int → Int → Bool) (n : Nat) : List Int := (List.range n).map fun (a : Nat) => gRow R a n
theorem gAt_len (R : Int → Int → Bool) (n m j : Nat) : (gAt R n m j).length = n := by simp [gAt]
theorem gAt_zero (R : Int → Int → Bool) (n : Nat) : gAt R n 0 0 = List.replicate n 0 := by
  apply List.ext_getElem <;> simp [gAt, gRow]
theorem gAt_next (R : Int → Int → Bool) (n m : Nat) : gAt R n m n = gAt R n (m + 1) 0 := by
  apply List.ext_getElem
  · simp [gAt]
  · intro i h1 h2
    simp only [gAt, List.getElem_map, List.getElem_range, gRow]
    by_cases h : i < m
    · rw [if_pos h, if_pos (by omega)]
    · by_cases h3 : i = m
      · subst h3; simp
      · rw [if_neg h, if_neg h3, if_neg (by omega)]; split <;> rfl
theorem gAt_end (R : Int → Int → Bool) (n : Nat) : gAt R n n 0 = gOf R n := by
  apply List.ext_getElem
  · simp [gAt, gOf]
  · intro i h1 h2
    have : i < n := by simpa [gAt] using h1
    simp [gAt, gOf, this]
theorem gAt_rd (R : Int → Int → Bool) (n m j : Nat) (h : m < n) : rd (gAt R n m j) (m : Int) = gRow R m j := by
  simp [rd, gAt, h]
theorem gAt_yes (R : Int → Int → Bool) (n m j : Nat) (h : m < n) (hr : R m j = true) : (gAt R n m j).set m (Go.bits .or .u64 (gRow R m j) (shl .u64 1 j)) = gAt R n m (j + 1) := by
  apply List.ext_getElem
  · simp [gAt]
  · intro i h1 h2
    rw [List.getElem_set]
    simp only [gAt, List.getElem_map, List.getElem_range]
    by_cases hi : m = i
    · subst hi; simp [gRow, hr]
    · have h3 : ¬ i = m := fun e => hi e.symm
      rw [if_neg hi, if_neg h3, if_neg h3]
theorem gAt_no (R : Int → Int → Bool) (n m j : Nat) (hr : ¬ R m j = true) : gAt R n m j = gAt R n m (j + 1) := by
  unfold gAt; congr 1; funext a
  by_cases hi : a = m
  · subst hi; simp [gRow, hr]
  · rw [if_neg hi, if_neg hi]
set_option maxHeartbeats 4000000 in
set_option maxRecDepth 100000 in
theorem graph_calls (g : Nat) (lb : Array Value) (eg : ∀ args w, (callFunc g args).run Tryz.prog w = .ok (.enter g args) w) (R : Int → Int → Bool) (A0 : Option Addr) (c0 : Nat) (l0 : List (List S45)) (A1 : Option Addr) (c1 n : Nat) (A2 : Option Addr) (c2 : Nat) (l2 : List S45) (w : World)
    (hl : n ≤ 1000000)
    (hcl : ∀ (W : World) (a b : Nat), Below w.heap.size w W → a < n → b < n → Calls Tryz.prog g (#[.int .i64 a, .int .i64 b] ++ lb) W fun e w' => e = .returned (.bool (R a b)) ∧ Below W.heap.size W w') :
    Calls Tryz.prog 49 #[.agg #[.slice A0 l0.length c0, .slice A1 n c1, .slice A2 l2.length c2], .func (.func g) #[] lb] w fun e w' => ∃ v, e = .returned v ∧ Kd.R (Kd.int .u64) 116 w' w.heap.size (fun _ => True) v (gOf R n) ∧ Below w.heap.size w w' := by
  have HF := am_ hcl
  clear hcl
  have BK := am_ (heap_alloc_new w (Obj.cells #[Value.slice A0 l0.length c0, Value.slice A1 n c1, Value.slice A2 l2.length c2] 59))
  have HB := am_ (below_alloc (Below.refl w.heap.size w) (Obj.cells #[Value.slice A0 l0.length c0, Value.slice A1 n c1, Value.slice A2 l2.length c2] 59))
  go_enter Tryz.func49, Tryz.ntmps49
  go_wp2_with (refine Kd.R_make (Kd.int .u64) (w0 := w) w.heap.size 116 rfl rfl 67 (.tmp 10) (.tmp 10) rfl (n : Int) rfl rfl Tryz.underlying67 (.int .u64 0) 8 info116 rfl (by decide) (by decide) (z0 := 0) (ok := fun _ => True) (okp := fun _ => True) rfl (fun _ _ => trivial) trivial (by omega) (by omega) HB.out (by simp) ?_; refine park ?_)
  refine ⟨?_⟩
  intro v1 w1 ho hb _ _ _ _
  rw [← gAt_zero R n] at ho
  obtain ⟨Av, cv, rfl⟩ := Kd.R_slice ho
  rw [gAt_len] at *
  have HO := am_ ho
  have HB1 := am_ hb
  skip
  clear ho hb BK
  go_wp2_with fail
  go_loopg [14] n (fun kq v14 w' => ∃ m : Nat, v14 = .int .i64 m ∧ Aside0 (m + kq = n) ∧ Aside0 (Kd.R (Kd.int .u64) 116 w' w.heap.size (fun _ => True) (.slice Av n cv) (gAt R n m 0)) ∧ Aside0 (Below w.heap.size w w'))
  case atStart => exact ⟨0, rfl, ⟨by omega⟩, HO, HB1⟩
  case round =>
    clear HO HB HB1
    obtain ⟨m, rfl, HK, HO, HB⟩ := hrel
    by_cases hlt : m < n
    · go_wp2_with fail
      go_loopg [19] n (fun kq v19 w' => ∃ j : Nat, v19 = .int .i64 j ∧ Aside0 (j + kq = n) ∧ Aside0 (Kd.R (Kd.int .u64) 116 w' w.heap.size (fun _ => True) (.slice Av n cv) (gAt R n m j)) ∧ Aside0 (Below w.heap.size w w'))
      case atStart => exact ⟨0, rfl, ⟨by omega⟩, HO, HB⟩
      case round =>
        clear HO HB
        obtain ⟨j, rfl, HK2, HO, HB⟩ := hrel
        by_cases hlj : j < n
        · have hc := HF.out wr m j HB.out hlt hlj
          by_cases hR : R m j = true
          · rw [hR] at hc
            have HC := am_ hc
            have HRR := am_ hR
            clear hc hR
            go_wp2_with (first | ((with_reducible refine HC.out.mono ?_); rintro e w6 ⟨rfl, hb6⟩; have HO := am_ (Kd.R_below HO.out hb6); have HB := am_ (below_step HB.out hb6); clear hb6))
            have hn0 : 0 < n := by omega
            obtain ⟨gA, cap, eA, hg0, hgl, cells, hcells⟩ := Kd.R_form HO.out (by rw [gAt_len]; omega)
            rw [gAt_len] at eA
            rw [eA] at HO
            obtain ⟨ce, hce, hMe, hcce, hfre⟩ := Kd.R_elem HO.out 0 (m : Int) (by omega) (by omega)
            have hce1 : ce = [.int .u64 (gRow R m j)] := by
              have h1 := (Kd.int .u64).K_of_M hMe
              rw [show (gAt R n m j).getD (m : Int).toNat 0 = gRow R m j from by have := gAt_rd R n m j hlt; simpa [rd] using this] at h1
              exact h1
            subst hce1
            have hcm : w6.drew.cell? ⟨gA, m, none⟩ = some (.int .u64 (gRow R m j)) := by have h1 := hcce 0 _ rfl; simpa [Kd.int, Kd.scalar] using h1
            have hfm : w6.drew.frozen? ⟨gA, m, none⟩ = false := blk_frozen (blk_drew hcells) m
            have HO := am_ (Kd.R_drew HO.out)
            have HB := am_ (below_drew1 HB.out)
            clear hcells hce hMe hcce hfre
            injection eA with eA1 eA2 eA3
            subst eA1
            subst eA3
            clear eA2
            go_still_tail 8, (by kernel_rfl)
            change wpList _ _ _ _ _ w6.drew
            generalize w6.drew = w7 at *
            go_wp2_with fail
            have HP := am_ (Kd.R_putg HO.out (m : Int) (Go.bits .or .u64 (gRow R m j) (shl .u64 1 j))).1
            rw [Int.toNat_natCast, gAt_yes R n m j hlt HRR.out, show shl .u64 1 (j : Int) = IntKind.u64.wrap (2 ^ min j 64) from by simp [shl, IntKind.bits]] at HP
            have HB := am_ (below_set HB.out (g := gA) (j := m) hg0 (v := Value.int IntKind.u64 (bits BinOp.or IntKind.u64 (gRow R (↑m) j) (IntKind.u64.wrap (2 ^ min j 64)))))
            go_roundg (n - (j + 1))
            case rel => exact ⟨j + 1, by simp, ⟨by omega⟩, HP, HB⟩
            case measure => have := HK2.out; omega
          · have hR2 : R m j = false := by simpa using hR
            rw [hR2] at hc
            have HC := am_ hc
            rw [gAt_no R n m j hR] at HO
            clear hc hR hR2
            go_wp2_with (first | ((with_reducible refine HC.out.mono ?_); rintro e w6 ⟨rfl, hb6⟩; have HO := am_ (Kd.R_below HO.out hb6); have HB := am_ (below_step HB.out hb6); clear hb6))
            go_roundg (n - (j + 1))
            case rel => exact ⟨j + 1, by simp, ⟨by omega⟩, HO, HB⟩
            case measure => have := HK2.out; omega
        · obtain rfl : j = n := by have := HK2.out; omega
          rw [gAt_next] at HO
          go_wp2_with fail
          go_roundg (j - (m + 1))
          case rel => exact ⟨m + 1, by simp, ⟨by omega⟩, HO, HB⟩
          case measure => have := HK.out; omega
    · obtain rfl : m = n := by have := HK.out; omega
      rw [gAt_end] at HO
      go_wp2_with fail
      go_ret
      exact ⟨_, rfl, HO.out, HB.out⟩
end Go.Proofs.YtmkchdlkpbnldaaGreatDoor.PB

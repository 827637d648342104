-- Joined by wip/mclaim.py out of YtefkbmhkhpekjaaPBx101, YtefkbmhkhpekjaaPBx96, YtefkbmhkhpekjaaPBx46, YtefkbmhkhpekjaaPBx133, YtefkbmhkhpekjaaPBx120, YtefkbmhkhpekjaaPBx97, YtefkbmhkhpekjaaPBx98, YtefkbmhkhpekjaaPBx47, YtefkbmhkhpekjaaPBx100, YtefkbmhkhpekjaaPBx49, YtefkbmhkhpekjaaPBx53, YtefkbmhkhpekjaaPBx14
import Derived.Test.YtefkbmhkhpekjaaPBx0
import Derived.Test.YtefkbmhkhpekjaaPBx70
import Derived.Test.YtefkbmhkhpekjaaPBx71
import Derived.Test.YtefkbmhkhpekjaaJFnTurnThreadsyPBx92
import Derived.Test.YtefkbmhkhpekjaaPBx31
import Derived.Test.YtefkbmhkhpekjaaJFnTurnThreadsx1
import Derived.Test.YtefkbmhkhpekjaaPBx30
import Derived.Test.YtefkbmhkhpekjaaPBx40
namespace Go.Proofs.Ytefkbmhkhpekjaa.PB
open Go.RowKit Go.Proofs.YtefkbmhkhpekjaaW.PrintWords Go.Proofs.YtefkbmhkhpekjaaW.PrintLast Go.Proofs.YtefkbmhkhpekjaaW.PrintMore
attribute [local go_sem] max2_int min2_int max_two min_two max_three min_three max_four min_four   -- for this text's walks alone
open Go.Proofs.YtefkbmhkhpekjaaMine
set_option linter.unusedVariables false
set_option linter.unusedSimpArgs false

theorem z101_1 {p : Prop} (h : p := by first | rfl | (simp; done) | (simp [*]; done)) : p := h
theorem z101_2 {p : Prop} (h : p := by first | (with_reducible assumption) | assumption) : p := h
theorem z101_3 {p : Prop} (h : p := by repeat (first | exact Drawn0.refl _ | apply Drawn0.step)) : p := h
/-! ### spec_l12Has: function 101 -/
def spec_l12Has.l0 : Nat → List Int → Int → Int → Option (Bool)
  | 0, _, _, _ => none
  | k + 1, x0, x1, x5 => if x5 < (x0.length : Int) then (if 0 ≤ x5 then (if (rd x0 x5) = x1 then (some true) else (spec_l12Has.l0 k x0 x1 (wrap64 (x5 + 1)))) else (none)) else (some false)
def spec_l12Has.f (k : Nat) (l0 : List Int) (a1 : Int) : Option (Bool) := spec_l12Has.l0 k l0 a1 0
theorem spec_l12Has.mono_l : ∀ k, (∀ y0 y1 y2, LeO (spec_l12Has.l0 k y0 y1 y2) (spec_l12Has.l0 (k + 1) y0 y1 y2))
  | 0 => fun _ _ _ r h => by simp [spec_l12Has.l0] at h
  | k + 1 => by
    have ih0 := spec_l12Has.mono_l k
    · intro y0 y1 y2
      unfold spec_l12Has.l0
      repeat' first
      | (with_reducible exact ih0 _ _ _)
      | (with_reducible exact LeO.refl _)
      | (with_reducible exact LeO.none _)
      | (with_reducible refine LeO.ite ?_ ?_)
      | (with_reducible refine LeO.bind ?_ (fun _ => ?_))
      | exact ih0 _ _ _
      | exact LeO.none _
      | refine LeO.ite ?_ ?_
      | refine LeO.bind ?_ (fun _ => ?_)
theorem spec_l12Has.mono : ∀ a0 a1 k, LeO (spec_l12Has.f k a0 a1) (spec_l12Has.f (k + 1) a0 a1) := by
  intro a0 a1 k
  have ih0 := spec_l12Has.mono_l k
  unfold spec_l12Has.f
  repeat' first
      | (with_reducible exact ih0 _ _ _)
      | (with_reducible exact LeO.refl _)
      | (with_reducible exact LeO.none _)
      | (with_reducible refine LeO.ite ?_ ?_)
      | (with_reducible refine LeO.bind ?_ (fun _ => ?_))
      | exact ih0 _ _ _
      | exact LeO.none _
      | refine LeO.ite ?_ ?_
      | refine LeO.bind ?_ (fun _ => ?_)
set_option maxHeartbeats 8000000 in
set_option maxRecDepth 100000 in
theorem spec_l12Has.calls (k : Nat) (A0 : Option Addr) (c0 : Nat) (l0 : List Int) (a1 : Int) (r : Bool) (w : World) (hr0 : Kd.C (Kd.int .i64) w A0 l0.length l0) (hc0 : l0.length ≤ c0) (h : spec_l12Has.f k l0 a1 = some r) :
  Calls Try.prog 101 #[.slice A0 l0.length c0, .int .i64 a1] w fun e w' => e = .returned (.bool r) ∧ Drawn0 w w' := by
 have HR0 := am_ hr0
 have HC0 := am_ hc0
 clear hr0 hc0
 have H : (spec_l12Has.l0 k l0 a1 0) = some r := h
 clear h
 have H' := am_ H
 clear H
 go_enter Try.func101, Try.ntmps101
 go_wp2
 go_loopg [5] k (fun kq v5 w' => ∃ (x5_1 : Int), v5 = .int .i64 x5_1 ∧ Aside0 (spec_l12Has.l0 kq l0 a1 x5_1 = some r) ∧ Aside0 (kq ≤ k) ∧ Drawn0 w w')
 case atStart => exact ⟨(0), z101_1, H', ⟨Nat.le_refl _⟩, z101_3⟩
 case round =>
  clear H'
  obtain ⟨x5_1, rfl, HA, HK1, ⟨m1, rfl⟩⟩ := hrel
  cases gk with
  | zero => exact absurd HA.out (by simp [spec_l12Has.l0])
  | succ k1 =>
   have H := HA.out
   clear HA
   simp only [spec_l12Has.l0] at H
   by_cases c3 : x5_1 < (l0.length : Int)
   ·rw [if_pos c3] at H
    have c3b0 : decide (x5_1 < (l0.length : Int)) = true := decide_eq_true c3
    clear c3
    by_cases c4 : 0 ≤ x5_1
    ·rw [if_pos c4] at H
     have c4b0 : decide (0 ≤ x5_1) = true := decide_eq_true c4
     clear c4
     by_cases c5 : (rd l0 x5_1) = a1
     ·rw [if_pos c5] at H
      have c5b0 : ((rd l0 x5_1) == a1) = true := beq_iff_eq.mpr c5
      have c5b1 : ((rd l0 x5_1) != a1) = false := bne_eq_false_iff_eq.mpr c5
      clear c5
      obtain rfl := Option.some.inj H
      have p972 : 0 ≤ (x5_1 : Int) := of_decide_eq_true z101_2
      have q972 : x5_1 < (l0.length : Int) := of_decide_eq_true z101_2
      obtain ⟨ad972, e972, hx972_0⟩ := Kd.at_int HR0.out x5_1 p972 q972
      cases e972
      replace p972 := eq_true p972
      replace q972 := eq_true q972
      go_wp2
      go_ret
      exact ⟨z101_1, z101_3⟩
     ·rw [if_neg c5] at H
      have c5b0 : ((rd l0 x5_1) == a1) = false := beq_eq_false_iff_ne.mpr c5
      have c5b1 : ((rd l0 x5_1) != a1) = true := bne_iff_ne.mpr c5
      have H' := am_ H
      clear H
      have p972 : 0 ≤ (x5_1 : Int) := of_decide_eq_true z101_2
      have q972 : x5_1 < (l0.length : Int) := of_decide_eq_true z101_2
      obtain ⟨ad972, e972, hx972_0⟩ := Kd.at_int HR0.out x5_1 p972 q972
      cases e972
      replace p972 := eq_true p972
      replace q972 := eq_true q972
      go_wp2
      go_roundg k1
      case measure => have := HK1.out; omega
      case rel => exact ⟨(wrap64 (x5_1 + 1)), z101_1, H', ⟨by have := HK1.out; omega⟩, z101_3⟩
    ·rw [if_neg c4] at H
     exact absurd H (by simp)
   ·rw [if_neg c3] at H
    have c3b0 : decide (x5_1 < (l0.length : Int)) = false := decide_eq_false c3
    clear c3
    obtain rfl := Option.some.inj H
    go_wp2
    go_ret
    exact ⟨z101_1, z101_3⟩

end Go.Proofs.Ytefkbmhkhpekjaa.PB

namespace Go.Proofs.Ytefkbmhkhpekjaa.PB
open Go.RowKit Go.Proofs.YtefkbmhkhpekjaaW.PrintWords Go.Proofs.YtefkbmhkhpekjaaW.PrintLast Go.Proofs.YtefkbmhkhpekjaaW.PrintMore
attribute [local go_sem] max2_int min2_int max_two min_two max_three min_three max_four min_four   -- for this text's walks alone
open Go.Proofs.YtefkbmhkhpekjaaMine
set_option linter.unusedVariables false
set_option linter.unusedSimpArgs false

theorem z96_1 {p : Prop} (h : p := by first | rfl | (simp; done) | (simp [*]; done)) : p := h
theorem z96_2 {p : Prop} (h : p := by first | rfl | (simp [errW_none, errW_some] <;> rfl) | (simp [*, errW_none, errW_some] <;> rfl)) : p := h
theorem z96_3 {p : Prop} (h : p := by repeat (first | (with_reducible first | exact HK.out | apply KeepBut.set_ | apply keep_drewN | apply keep_drew | apply keep_alloc) | exact HK.out)) : p := h
theorem z96_4 {p : Prop} (h : p := by repeat (first | (with_reducible first | exact HI0.out | apply IsS116.alloc | apply IsS116.drewN | apply IsS116.drew | apply IsS116.set_1) | exact HI0.out)) : p := h
theorem z96_5 {p : Prop} (h : p := by repeat (first | (with_reducible first | exact HB.out | apply below_alloc | apply pw_below_drewN | apply below_drew1 | refine below_set ?_ (IsS116.ge HI0.out)) | exact HB.out)) : p := h
/-! ### spec_l71Row: function 96 -/
def spec_l71Row.l0 : Nat → Int → List Int → Int → List Int → Int → Option (List Int × Int)
  | 0, _, _, _, _, _ => none
  | k + 1, x1, x5, x6, x1000, x1001 => if (x5.length : Int) < x1 then ((spec_l6Rd_pick.f k x1000 x1001 x1).bind fun bt976 => (if x6 > 20 then (if x1 = 0 then (none) else ((spec_l12Has.f k x5 (Int.tmod x6 x1)).bind fun t978 => (if t978 = true then (spec_l71Row.l0 k x1 x5 (wrap64 (x6 + 1)) x1000 bt976.2) else (if x5.length < 17592186044416 then (spec_l71Row.l0 k x1 (x5 ++ [Int.tmod x6 x1]) (wrap64 (x6 + 1)) x1000 bt976.2) else (none))))) else ((spec_l12Has.f k x5 bt976.1).bind fun t982 => (if t982 = true then (spec_l71Row.l0 k x1 x5 (wrap64 (x6 + 1)) x1000 bt976.2) else (if x5.length < 17592186044416 then (spec_l71Row.l0 k x1 (x5 ++ [bt976.1]) (wrap64 (x6 + 1)) x1000 bt976.2) else (none)))))) else ((spec_l6Rd_pick.f k x1000 x1001 20).bind fun bt986 => (if bt986.1 = 0 then ((spec_l6Rd_pick.f k x1000 bt986.2 3).bind fun bt988 => (if x5.length < 17592186044416 then (some ((x5 ++ [bt988.1]), bt988.2)) else (none))) else (some (x5, bt986.2))))
def spec_l71Row.f (k : Nat) (s0_0 : List Int) (s0_1 : Int) (a1 : Int) : Option (List Int × Int) := spec_l71Row.l0 k a1 (([] : List Int)) 0 s0_0 s0_1
theorem spec_l71Row.mono_l : ∀ k, (∀ y0 y1 y2 y3 y4, LeO (spec_l71Row.l0 k y0 y1 y2 y3 y4) (spec_l71Row.l0 (k + 1) y0 y1 y2 y3 y4))
  | 0 => fun _ _ _ _ _ r h => by simp [spec_l71Row.l0] at h
  | k + 1 => by
    have ih0 := spec_l71Row.mono_l k
    · intro y0 y1 y2 y3 y4
      unfold spec_l71Row.l0
      repeat' first
      | (with_reducible exact ih0 _ _ _ _ _)
      | (with_reducible exact spec_l12Has.mono _ _ _)
      | (with_reducible exact spec_l6Rd_pick.mono _ _ _ _)
      | (with_reducible exact LeO.refl _)
      | (with_reducible exact LeO.none _)
      | (with_reducible refine LeO.ite ?_ ?_)
      | (with_reducible refine LeO.bind ?_ (fun _ => ?_))
      | exact ih0 _ _ _ _ _
      | exact spec_l12Has.mono _ _ _
      | exact spec_l6Rd_pick.mono _ _ _ _
      | exact LeO.none _
      | refine LeO.ite ?_ ?_
      | refine LeO.bind ?_ (fun _ => ?_)
theorem spec_l71Row.mono : ∀ a0 a1 a2 k, LeO (spec_l71Row.f k a0 a1 a2) (spec_l71Row.f (k + 1) a0 a1 a2) := by
  intro a0 a1 a2 k
  have ih0 := spec_l71Row.mono_l k
  unfold spec_l71Row.f
  repeat' first
      | (with_reducible exact ih0 _ _ _ _ _)
      | (with_reducible exact spec_l12Has.mono _ _ _)
      | (with_reducible exact spec_l6Rd_pick.mono _ _ _ _)
      | (with_reducible exact LeO.refl _)
      | (with_reducible exact LeO.none _)
      | (with_reducible refine LeO.ite ?_ ?_)
      | (with_reducible refine LeO.bind ?_ (fun _ => ?_))
      | exact ih0 _ _ _ _ _
      | exact spec_l12Has.mono _ _ _
      | exact spec_l6Rd_pick.mono _ _ _ _
      | exact LeO.none _
      | refine LeO.ite ?_ ?_
      | refine LeO.bind ?_ (fun _ => ?_)
set_option maxHeartbeats 8000000 in
set_option maxRecDepth 100000 in
theorem spec_l71Row.calls (k : Nat) (g : Nat) (s0_0 : List Int) (s0_1 : Int) (a1 : Int) (r1 : List Int) (r2 : Int) (w0 w : World) (hI : IsS116 w0 w g s0_0 s0_1) (hB : Below w0.heap.size w0 w) (h : spec_l71Row.f k s0_0 s0_1 a1 = some (r1, r2)) :
  Calls Try.prog 96 #[.pointer (some ⟨g, 0, none⟩), .int .i64 a1] w fun e w' => ∃ v0_ : Value, e = .returned (v0_) ∧ Kd.R (Kd.int .i64) 3 w' w.heap.size (fun _ => True) v0_ r1 ∧ IsS116 w0 w' g s0_0 r2 ∧ Below w0.heap.size w0 w' ∧ KeepBut w w' g none := by
 have HI0 := am_ hI
 have HK := am_ (KeepBut.refl w g none)
 have HL := am_ hB.size
 clear hI
 have HW0 := am_ hB.size
 have HB := am_ hB
 clear hB
 have H : (spec_l71Row.l0 k a1 (([] : List Int)) 0 s0_0 s0_1) = some (r1, r2) := h
 clear h
 obtain ⟨y973, hy973⟩ : ∃ y_ : List Int, y_ = (([] : List Int)) := ⟨_, rfl⟩
 replace H : (spec_l71Row.l0 k a1 y973 0 s0_0 s0_1) = some (r1, r2) := by first | (rw [hy973]; with_reducible exact H) | (have H2_ := (Option.bind_some _ _).symm.trans H; rw [hy973]; with_reducible exact H2_) | (have H2_ := (Option.bind_some _ _).symm.trans H; with_reducible exact H2_) | with_reducible exact H | (rw [hy973]; exact H) | exact H
 have Ny973 := am_ hy973
 clear hy973
 have H' := am_ H
 clear H
 go_enter Try.func96, Try.ntmps96
 go_wp2_with (first | ((with_reducible refine gate_dst (N := 8) rfl ?_); refine Kd.R_lit (Kd.int .i64) _ 3 ?hg (N := 8) ?hd (xs := ([] : List Int)) (inner := []) (ok := fun _ => True) (okp := fun _ => True) ?hr ?hp (fun _ hk => hk) trivial (Below.refl _ _) (Nat.le_refl _) (by simp) ?_; (case hd => rfl); (case hg => rfl); (case hr => first | (go_simp; done) | (go_simp; rfl)); (case hp => exact (Reps.none _ _)); intro v974 w3 ho4 hb hg_ hnew_; clear hg_ hnew_; (first | rw [← Ny973.out] at ho4 | (simp only [Int.reduceToNat] at ho4; rw [← Ny973.out] at ho4)); have n0_ := am_ (Kd.R_lower ho4 (keep_size (w := w) (g := g) (row := none) z96_3)); have n1_ := am_ (IsS116.below z96_4 hb); have n2_ := am_ (KeepBut.trans z96_3 (KeepBut.of_below hb g none) (.inl rfl)); have n3_ := am_ (below_step z96_5 hb); clear HI0 HK HB; have HO975 := n0_; have HI0 := n1_; have HK := n2_; have HB := n3_; clear n0_ n1_ n2_ n3_; clear hb ho4))
 go_loopg [5, 6] k (fun kq v5 v6 w' => ∃ (x5_1 : List Int) (x6_1 : Int) (x1001_1 : Int), v6 = .int .i64 x6_1 ∧ Aside0 (spec_l71Row.l0 kq a1 x5_1 x6_1 s0_0 x1001_1 = some (r1, r2)) ∧ Aside0 (kq ≤ k) ∧ Aside0 (Kd.R (Kd.int .i64) 3 w' w.heap.size (fun _ => True) v5 x5_1) ∧ Aside0 (IsS116 w0 w' g s0_0 x1001_1) ∧ Aside0 (KeepBut w w' g none) ∧ Aside0 (Below w0.heap.size w0 w'))
 case atStart => exact ⟨(y973), (0), (s0_1), z96_1, H', ⟨Nat.le_refl _⟩, ⟨ru HO975.out⟩, ⟨z96_4⟩, ⟨z96_3⟩, ⟨z96_5⟩⟩
 case round =>
  clear H'
  obtain ⟨x5_1, x6_1, x1001_1, rfl, HA, HK1, HO_5, HI0, HK, HB⟩ := hrel
  cases gk with
  | zero => exact absurd HA.out (by simp [spec_l71Row.l0])
  | succ k1 =>
   have H := HA.out
   clear HA
   simp only [spec_l71Row.l0] at H
   by_cases c5 : (x5_1.length : Int) < a1
   ·rw [if_pos c5] at H
    have c5b0 : decide ((x5_1.length : Int) < a1) = true := decide_eq_true c5
    clear c5
    replace H := Option.bind_eq_some_iff.mp H
    obtain ⟨⟨t976, t977⟩, A60, H⟩ := H
    replace H : (if x6_1 > 20 then (if a1 = 0 then (none) else ((spec_l12Has.f k1 x5_1 (Int.tmod x6_1 a1)).bind fun t978 => (if t978 = true then (spec_l71Row.l0 k1 a1 x5_1 (wrap64 (x6_1 + 1)) s0_0 t977) else (if x5_1.length < 17592186044416 then (spec_l71Row.l0 k1 a1 (x5_1 ++ [Int.tmod x6_1 a1]) (wrap64 (x6_1 + 1)) s0_0 t977) else (none))))) else ((spec_l12Has.f k1 x5_1 t976).bind fun t982 => (if t982 = true then (spec_l71Row.l0 k1 a1 x5_1 (wrap64 (x6_1 + 1)) s0_0 t977) else (if x5_1.length < 17592186044416 then (spec_l71Row.l0 k1 a1 (x5_1 ++ [t976]) (wrap64 (x6_1 + 1)) s0_0 t977) else (none))))) = some (r1, r2) := H
    have A6 := am_ A60
    clear A60
    by_cases c7 : x6_1 > 20
    ·rw [if_pos c7] at H
     have c7b0 : decide (20 < x6_1) = true := decide_eq_true c7
     clear c7
     by_cases c8 : a1 = 0
     ·rw [if_pos c8] at H
      exact absurd H (by simp)
     ·rw [if_neg c8] at H
      have c8b0 : (a1 == 0) = false := beq_eq_false_iff_ne.mpr c8
      have c8b1 : (a1 != 0) = true := bne_iff_ne.mpr c8
      replace H := Option.bind_eq_some_iff.mp H
      obtain ⟨t978, A90, H⟩ := H
      replace H : (if t978 = true then (spec_l71Row.l0 k1 a1 x5_1 (wrap64 (x6_1 + 1)) s0_0 t977) else (if x5_1.length < 17592186044416 then (spec_l71Row.l0 k1 a1 (x5_1 ++ [Int.tmod x6_1 a1]) (wrap64 (x6_1 + 1)) s0_0 t977) else (none))) = some (r1, r2) := H
      have A9 := am_ A90
      clear A90
      by_cases c10 : t978 = true
      ·subst c10
       have H1 : (spec_l71Row.l0 k1 a1 x5_1 (wrap64 (x6_1 + 1)) s0_0 t977) = some (r1, r2) := by rw [if_pos rfl] at H; exact H
       clear H
       have H := H1
       clear H1
       have H' := am_ H
       clear H
       obtain ⟨Ao11, co11, eo11⟩ := Kd.R_slice HO_5.out
       subst eo11
       go_wp2_with (first | ((with_reducible refine gate_callee (f := 71) rfl ?_); refine goesL_ (some 17) rfl rfl Try.func71 (by kernel_rfl) rfl #[.pointer (some ⟨g, 0, none⟩), .int .i64 a1] rfl (by (try simp only [List.map_toArray, List.map_cons, List.map_nil]); first | done | rfl | (simp only [List.length_drop, List.length_take]; rfl)) ?_; (with_reducible refine (spec_l6Rd_pick.calls k1 g s0_0 x1001_1 a1 t976 t977 w0 _ ?side1 ?side2 A6.out).mono ?_); (case side1 => repeat (first | (with_reducible first | exact HI0.out | apply IsS116.alloc | apply IsS116.drewN | apply IsS116.drew | apply IsS116.set_1) | exact HI0.out)); (case side2 => repeat (first | (with_reducible first | exact HB.out | apply below_alloc | apply pw_below_drewN | apply below_drew1 | refine below_set ?_ (IsS116.ge HI0.out)) | exact HB.out)); rintro e w12 ⟨rfl, hi, hb, hk⟩; refine ⟨_, rfl, ?_⟩; have n0_ := am_ (Kd.R_mono (Kd.R_keep (IsS116.apart (show IsS116 w0 _ g s0_0 x1001_1 from by repeat (first | (with_reducible first | exact HI0.out | apply IsS116.alloc | apply IsS116.drewN | apply IsS116.drew | apply IsS116.set_1) | exact HI0.out)) (ru HO_5.out) (by decide)) hk (fun _ h => h.2)) (fun _ h => h.1)); have n1_ := am_ (KeepBut.trans z96_3 hk (.inl rfl)); have n2_ := am_ (hb); have n3_ := am_ (hi); clear HO_5 HK HB HI0; have HO_5 := n0_; have HK := n1_; have HB := n2_; have HI0 := n3_; clear n0_ n1_ n2_ n3_; (try clear hb); (try clear hb2); (try clear hk); (try clear hi)) | ((with_reducible refine gate_callee (f := 101) rfl ?_); refine goesL_ (some 25) rfl rfl Try.func101 (by kernel_rfl) rfl #[.slice Ao11 x5_1.length co11, .int .i64 (Int.tmod x6_1 a1)] rfl (by (try simp only [List.map_toArray, List.map_cons, List.map_nil]); first | done | rfl | (simp only [List.length_drop, List.length_take]; rfl)) ?_; (with_reducible refine (spec_l12Has.calls k1 _ _ x5_1 (Int.tmod x6_1 a1) true _ ?side1 ?side2 A9.out).mono ?_); (case side1 => repeat (first | exact (Kd.R_reads' HO_5.out).2.2 | (with_reducible refine Kd.C_alloc ?_ _) | (with_reducible refine Kd.C_drewN ?_ _) | (with_reducible refine Kd.C_drew ?_))); (case side2 => exact (Kd.R_reads' HO_5.out).2.1); rintro e w' ⟨rfl, ⟨nd, rfl⟩⟩; refine ⟨_, rfl, ?_⟩))
       go_roundg k1
       case measure => have := HK1.out; omega
       case rel => exact ⟨(x5_1), (wrap64 (x6_1 + 1)), (t977), z96_1, H', ⟨by have := HK1.out; omega⟩, ⟨ru HO_5.out⟩, ⟨z96_4⟩, ⟨z96_3⟩, ⟨z96_5⟩⟩
      ·replace c10 := Bool.eq_false_iff.mpr c10
       subst c10
       have H1 : (if x5_1.length < 17592186044416 then (spec_l71Row.l0 k1 a1 (x5_1 ++ [Int.tmod x6_1 a1]) (wrap64 (x6_1 + 1)) s0_0 t977) else (none)) = some (r1, r2) := by rw [if_neg (show ¬ (false = true) by decide)] at H; exact H
       clear H
       have H := H1
       clear H1
       by_cases c13 : x5_1.length < 17592186044416
       ·rw [if_pos c13] at H
        have LMc13 := am_ c13
        clear c13
        obtain ⟨y979, hy979⟩ : ∃ y_ : List Int, y_ = (x5_1 ++ [Int.tmod x6_1 a1]) := ⟨_, rfl⟩
        replace H : (spec_l71Row.l0 k1 a1 y979 (wrap64 (x6_1 + 1)) s0_0 t977) = some (r1, r2) := by first | (rw [hy979]; with_reducible exact H) | (have H2_ := (Option.bind_some _ _).symm.trans H; rw [hy979]; with_reducible exact H2_) | (have H2_ := (Option.bind_some _ _).symm.trans H; with_reducible exact H2_) | with_reducible exact H | (rw [hy979]; exact H) | exact H
        have Ny979 := am_ hy979
        clear hy979
        have H' := am_ H
        clear H
        obtain ⟨Ao14, co14, eo14⟩ := Kd.R_slice HO_5.out
        subst eo14
        go_wp2_with (first | ((with_reducible refine gate_callee (f := 71) rfl ?_); refine goesL_ (some 17) rfl rfl Try.func71 (by kernel_rfl) rfl #[.pointer (some ⟨g, 0, none⟩), .int .i64 a1] rfl (by (try simp only [List.map_toArray, List.map_cons, List.map_nil]); first | done | rfl | (simp only [List.length_drop, List.length_take]; rfl)) ?_; (with_reducible refine (spec_l6Rd_pick.calls k1 g s0_0 x1001_1 a1 t976 t977 w0 _ ?side1 ?side2 A6.out).mono ?_); (case side1 => repeat (first | (with_reducible first | exact HI0.out | apply IsS116.alloc | apply IsS116.drewN | apply IsS116.drew | apply IsS116.set_1) | exact HI0.out)); (case side2 => repeat (first | (with_reducible first | exact HB.out | apply below_alloc | apply pw_below_drewN | apply below_drew1 | refine below_set ?_ (IsS116.ge HI0.out)) | exact HB.out)); rintro e w15 ⟨rfl, hi, hb, hk⟩; refine ⟨_, rfl, ?_⟩; have n0_ := am_ (Kd.R_mono (Kd.R_keep (IsS116.apart (show IsS116 w0 _ g s0_0 x1001_1 from by repeat (first | (with_reducible first | exact HI0.out | apply IsS116.alloc | apply IsS116.drewN | apply IsS116.drew | apply IsS116.set_1) | exact HI0.out)) (ru HO_5.out) (by decide)) hk (fun _ h => h.2)) (fun _ h => h.1)); have n1_ := am_ (KeepBut.trans z96_3 hk (.inl rfl)); have n2_ := am_ (hb); have n3_ := am_ (hi); clear HO_5 HK HB HI0; have HO_5 := n0_; have HK := n1_; have HB := n2_; have HI0 := n3_; clear n0_ n1_ n2_ n3_; (try clear hb); (try clear hb2); (try clear hk); (try clear hi)) | ((with_reducible refine gate_callee (f := 101) rfl ?_); refine goesL_ (some 25) rfl rfl Try.func101 (by kernel_rfl) rfl #[.slice Ao14 x5_1.length co14, .int .i64 (Int.tmod x6_1 a1)] rfl (by (try simp only [List.map_toArray, List.map_cons, List.map_nil]); first | done | rfl | (simp only [List.length_drop, List.length_take]; rfl)) ?_; (with_reducible refine (spec_l12Has.calls k1 _ _ x5_1 (Int.tmod x6_1 a1) false _ ?side1 ?side2 A9.out).mono ?_); (case side1 => repeat (first | exact (Kd.R_reads' HO_5.out).2.2 | (with_reducible refine Kd.C_alloc ?_ _) | (with_reducible refine Kd.C_drewN ?_ _) | (with_reducible refine Kd.C_drew ?_))); (case side2 => exact (Kd.R_reads' HO_5.out).2.1); rintro e w' ⟨rfl, ⟨nd, rfl⟩⟩; refine ⟨_, rfl, ?_⟩) | ((with_reducible refine gate_builtin (b := .append) (xs := #[.tmp 27, .tmp 29]) rfl ?_); at_builtin; refine Kd.R_append (Kd.int .i64) w.heap.size rfl (.tmp 27) (.tmp 29) 22 3 (.int .i64 0) 8 rfl Try.underlying22 info3 rfl (by decide) (by omega) (.slice Ao14 x5_1.length co14) x5_1 (Int.tmod x6_1 a1) [.int .i64 (Int.tmod x6_1 a1)] (fun _ => True) (fun _ => False) rfl rfl ?aP (fun _ hk => hk.elim) ?aF ?aO (Below.refl _ _) ?aS ?aL ?_; (case aP => exact rfl); (case aF => exact (fun _ _ => trivial)); (case aO => exact (ru HO_5.out)); (case aS => exact (keep_size (w := w) (g := g) (row := none) z96_3)); (case aL => have := LMc13.out; omega); intro v980 w16 ho hb hg hat; rw [← Ny979.out] at ho; have n0_ := am_ (IsS116.grown z96_4 hg (IsS116.own_ne HI0.out HO_5.out (by decide))); have n1_ := am_ (below_weaken z96_5 HL.out hb); have n2_ := am_ (KeepBut.trans z96_3 (KeepBut.of_grown hg g) (Kd.R_base2 HO_5.out)); have n3_ := am_ (ho); clear HI0 HB HK HO_5; have HI0 := n0_; have HB := n1_; have HK := n2_; have HO981 := n3_; clear n0_ n1_ n2_ n3_; clear ho hb hg hat))
        go_roundg k1
        case measure => have := HK1.out; omega
        case rel => exact ⟨(y979), (wrap64 (x6_1 + 1)), (t977), z96_1, H', ⟨by have := HK1.out; omega⟩, ⟨ru HO981.out⟩, ⟨z96_4⟩, ⟨z96_3⟩, ⟨z96_5⟩⟩
       ·rw [if_neg c13] at H
        exact absurd H (by simp)
    ·rw [if_neg c7] at H
     have c7b0 : decide (20 < x6_1) = false := decide_eq_false c7
     clear c7
     replace H := Option.bind_eq_some_iff.mp H
     obtain ⟨t982, A170, H⟩ := H
     replace H : (if t982 = true then (spec_l71Row.l0 k1 a1 x5_1 (wrap64 (x6_1 + 1)) s0_0 t977) else (if x5_1.length < 17592186044416 then (spec_l71Row.l0 k1 a1 (x5_1 ++ [t976]) (wrap64 (x6_1 + 1)) s0_0 t977) else (none))) = some (r1, r2) := H
     have A17 := am_ A170
     clear A170
     by_cases c18 : t982 = true
     ·subst c18
      have H1 : (spec_l71Row.l0 k1 a1 x5_1 (wrap64 (x6_1 + 1)) s0_0 t977) = some (r1, r2) := by rw [if_pos rfl] at H; exact H
      clear H
      have H := H1
      clear H1
      have H' := am_ H
      clear H
      obtain ⟨Ao19, co19, eo19⟩ := Kd.R_slice HO_5.out
      subst eo19
      go_wp2_with (first | ((with_reducible refine gate_callee (f := 71) rfl ?_); refine goesL_ (some 17) rfl rfl Try.func71 (by kernel_rfl) rfl #[.pointer (some ⟨g, 0, none⟩), .int .i64 a1] rfl (by (try simp only [List.map_toArray, List.map_cons, List.map_nil]); first | done | rfl | (simp only [List.length_drop, List.length_take]; rfl)) ?_; (with_reducible refine (spec_l6Rd_pick.calls k1 g s0_0 x1001_1 a1 t976 t977 w0 _ ?side1 ?side2 A6.out).mono ?_); (case side1 => repeat (first | (with_reducible first | exact HI0.out | apply IsS116.alloc | apply IsS116.drewN | apply IsS116.drew | apply IsS116.set_1) | exact HI0.out)); (case side2 => repeat (first | (with_reducible first | exact HB.out | apply below_alloc | apply pw_below_drewN | apply below_drew1 | refine below_set ?_ (IsS116.ge HI0.out)) | exact HB.out)); rintro e w20 ⟨rfl, hi, hb, hk⟩; refine ⟨_, rfl, ?_⟩; have n0_ := am_ (Kd.R_mono (Kd.R_keep (IsS116.apart (show IsS116 w0 _ g s0_0 x1001_1 from by repeat (first | (with_reducible first | exact HI0.out | apply IsS116.alloc | apply IsS116.drewN | apply IsS116.drew | apply IsS116.set_1) | exact HI0.out)) (ru HO_5.out) (by decide)) hk (fun _ h => h.2)) (fun _ h => h.1)); have n1_ := am_ (KeepBut.trans z96_3 hk (.inl rfl)); have n2_ := am_ (hb); have n3_ := am_ (hi); clear HO_5 HK HB HI0; have HO_5 := n0_; have HK := n1_; have HB := n2_; have HI0 := n3_; clear n0_ n1_ n2_ n3_; (try clear hb); (try clear hb2); (try clear hk); (try clear hi)) | ((with_reducible refine gate_callee (f := 101) rfl ?_); refine goesL_ (some 25) rfl rfl Try.func101 (by kernel_rfl) rfl #[.slice Ao19 x5_1.length co19, .int .i64 t976] rfl (by (try simp only [List.map_toArray, List.map_cons, List.map_nil]); first | done | rfl | (simp only [List.length_drop, List.length_take]; rfl)) ?_; (with_reducible refine (spec_l12Has.calls k1 _ _ x5_1 t976 true _ ?side1 ?side2 A17.out).mono ?_); (case side1 => repeat (first | exact (Kd.R_reads' HO_5.out).2.2 | (with_reducible refine Kd.C_alloc ?_ _) | (with_reducible refine Kd.C_drewN ?_ _) | (with_reducible refine Kd.C_drew ?_))); (case side2 => exact (Kd.R_reads' HO_5.out).2.1); rintro e w' ⟨rfl, ⟨nd, rfl⟩⟩; refine ⟨_, rfl, ?_⟩))
      go_roundg k1
      case measure => have := HK1.out; omega
      case rel => exact ⟨(x5_1), (wrap64 (x6_1 + 1)), (t977), z96_1, H', ⟨by have := HK1.out; omega⟩, ⟨ru HO_5.out⟩, ⟨z96_4⟩, ⟨z96_3⟩, ⟨z96_5⟩⟩
     ·replace c18 := Bool.eq_false_iff.mpr c18
      subst c18
      have H1 : (if x5_1.length < 17592186044416 then (spec_l71Row.l0 k1 a1 (x5_1 ++ [t976]) (wrap64 (x6_1 + 1)) s0_0 t977) else (none)) = some (r1, r2) := by rw [if_neg (show ¬ (false = true) by decide)] at H; exact H
      clear H
      have H := H1
      clear H1
      by_cases c21 : x5_1.length < 17592186044416
      ·rw [if_pos c21] at H
       have LMc21 := am_ c21
       clear c21
       obtain ⟨y983, hy983⟩ : ∃ y_ : List Int, y_ = (x5_1 ++ [t976]) := ⟨_, rfl⟩
       replace H : (spec_l71Row.l0 k1 a1 y983 (wrap64 (x6_1 + 1)) s0_0 t977) = some (r1, r2) := by first | (rw [hy983]; with_reducible exact H) | (have H2_ := (Option.bind_some _ _).symm.trans H; rw [hy983]; with_reducible exact H2_) | (have H2_ := (Option.bind_some _ _).symm.trans H; with_reducible exact H2_) | with_reducible exact H | (rw [hy983]; exact H) | exact H
       have Ny983 := am_ hy983
       clear hy983
       have H' := am_ H
       clear H
       obtain ⟨Ao22, co22, eo22⟩ := Kd.R_slice HO_5.out
       subst eo22
       go_wp2_with (first | ((with_reducible refine gate_callee (f := 71) rfl ?_); refine goesL_ (some 17) rfl rfl Try.func71 (by kernel_rfl) rfl #[.pointer (some ⟨g, 0, none⟩), .int .i64 a1] rfl (by (try simp only [List.map_toArray, List.map_cons, List.map_nil]); first | done | rfl | (simp only [List.length_drop, List.length_take]; rfl)) ?_; (with_reducible refine (spec_l6Rd_pick.calls k1 g s0_0 x1001_1 a1 t976 t977 w0 _ ?side1 ?side2 A6.out).mono ?_); (case side1 => repeat (first | (with_reducible first | exact HI0.out | apply IsS116.alloc | apply IsS116.drewN | apply IsS116.drew | apply IsS116.set_1) | exact HI0.out)); (case side2 => repeat (first | (with_reducible first | exact HB.out | apply below_alloc | apply pw_below_drewN | apply below_drew1 | refine below_set ?_ (IsS116.ge HI0.out)) | exact HB.out)); rintro e w23 ⟨rfl, hi, hb, hk⟩; refine ⟨_, rfl, ?_⟩; have n0_ := am_ (Kd.R_mono (Kd.R_keep (IsS116.apart (show IsS116 w0 _ g s0_0 x1001_1 from by repeat (first | (with_reducible first | exact HI0.out | apply IsS116.alloc | apply IsS116.drewN | apply IsS116.drew | apply IsS116.set_1) | exact HI0.out)) (ru HO_5.out) (by decide)) hk (fun _ h => h.2)) (fun _ h => h.1)); have n1_ := am_ (KeepBut.trans z96_3 hk (.inl rfl)); have n2_ := am_ (hb); have n3_ := am_ (hi); clear HO_5 HK HB HI0; have HO_5 := n0_; have HK := n1_; have HB := n2_; have HI0 := n3_; clear n0_ n1_ n2_ n3_; (try clear hb); (try clear hb2); (try clear hk); (try clear hi)) | ((with_reducible refine gate_callee (f := 101) rfl ?_); refine goesL_ (some 25) rfl rfl Try.func101 (by kernel_rfl) rfl #[.slice Ao22 x5_1.length co22, .int .i64 t976] rfl (by (try simp only [List.map_toArray, List.map_cons, List.map_nil]); first | done | rfl | (simp only [List.length_drop, List.length_take]; rfl)) ?_; (with_reducible refine (spec_l12Has.calls k1 _ _ x5_1 t976 false _ ?side1 ?side2 A17.out).mono ?_); (case side1 => repeat (first | exact (Kd.R_reads' HO_5.out).2.2 | (with_reducible refine Kd.C_alloc ?_ _) | (with_reducible refine Kd.C_drewN ?_ _) | (with_reducible refine Kd.C_drew ?_))); (case side2 => exact (Kd.R_reads' HO_5.out).2.1); rintro e w' ⟨rfl, ⟨nd, rfl⟩⟩; refine ⟨_, rfl, ?_⟩) | ((with_reducible refine gate_builtin (b := .append) (xs := #[.tmp 27, .tmp 29]) rfl ?_); at_builtin; refine Kd.R_append (Kd.int .i64) w.heap.size rfl (.tmp 27) (.tmp 29) 22 3 (.int .i64 0) 8 rfl Try.underlying22 info3 rfl (by decide) (by omega) (.slice Ao22 x5_1.length co22) x5_1 t976 [.int .i64 t976] (fun _ => True) (fun _ => False) rfl rfl ?aP (fun _ hk => hk.elim) ?aF ?aO (Below.refl _ _) ?aS ?aL ?_; (case aP => exact rfl); (case aF => exact (fun _ _ => trivial)); (case aO => exact (ru HO_5.out)); (case aS => exact (keep_size (w := w) (g := g) (row := none) z96_3)); (case aL => have := LMc21.out; omega); intro v984 w24 ho hb hg hat; rw [← Ny983.out] at ho; have n0_ := am_ (IsS116.grown z96_4 hg (IsS116.own_ne HI0.out HO_5.out (by decide))); have n1_ := am_ (below_weaken z96_5 HL.out hb); have n2_ := am_ (KeepBut.trans z96_3 (KeepBut.of_grown hg g) (Kd.R_base2 HO_5.out)); have n3_ := am_ (ho); clear HI0 HB HK HO_5; have HI0 := n0_; have HB := n1_; have HK := n2_; have HO985 := n3_; clear n0_ n1_ n2_ n3_; clear ho hb hg hat))
       go_roundg k1
       case measure => have := HK1.out; omega
       case rel => exact ⟨(y983), (wrap64 (x6_1 + 1)), (t977), z96_1, H', ⟨by have := HK1.out; omega⟩, ⟨ru HO985.out⟩, ⟨z96_4⟩, ⟨z96_3⟩, ⟨z96_5⟩⟩
      ·rw [if_neg c21] at H
       exact absurd H (by simp)
   ·rw [if_neg c5] at H
    have c5b0 : decide ((x5_1.length : Int) < a1) = false := decide_eq_false c5
    clear c5
    replace H := Option.bind_eq_some_iff.mp H
    obtain ⟨⟨t986, t987⟩, A250, H⟩ := H
    replace H : (if t986 = 0 then ((spec_l6Rd_pick.f k1 s0_0 t987 3).bind fun bt988 => (if x5_1.length < 17592186044416 then (some ((x5_1 ++ [bt988.1]), bt988.2)) else (none))) else (some (x5_1, t987))) = some (r1, r2) := H
    have A25 := am_ A250
    clear A250
    by_cases c26 : t986 = 0
    ·rw [if_pos c26] at H
     have c26b0 : (t986 == 0) = true := beq_iff_eq.mpr c26
     have c26b1 : (t986 != 0) = false := bne_eq_false_iff_eq.mpr c26
     clear c26
     replace H := Option.bind_eq_some_iff.mp H
     obtain ⟨⟨t988, t989⟩, A270, H⟩ := H
     replace H : (if x5_1.length < 17592186044416 then (some ((x5_1 ++ [t988]), t989)) else (none)) = some (r1, r2) := H
     have A27 := am_ A270
     clear A270
     by_cases c28 : x5_1.length < 17592186044416
     ·rw [if_pos c28] at H
      have LMc28 := am_ c28
      clear c28
      obtain ⟨y990, hy990⟩ : ∃ y_ : List Int, y_ = (x5_1 ++ [t988]) := ⟨_, rfl⟩
      replace H : (some (y990, t989)) = some (r1, r2) := by first | (rw [hy990]; with_reducible exact H) | (have H2_ := (Option.bind_some _ _).symm.trans H; rw [hy990]; with_reducible exact H2_) | (have H2_ := (Option.bind_some _ _).symm.trans H; with_reducible exact H2_) | with_reducible exact H | (rw [hy990]; exact H) | exact H
      have Ny990 := am_ hy990
      clear hy990
      simp only [Option.some.injEq, Prod.mk.injEq] at H
      obtain ⟨rfl, rfl⟩ := H
      obtain ⟨Ao29, co29, eo29⟩ := Kd.R_slice HO_5.out
      subst eo29
      go_wp2_with (first | ((with_reducible refine gate_callee (f := 71) rfl ?_); refine goesL_ (some 32) rfl rfl Try.func71 (by kernel_rfl) rfl #[.pointer (some ⟨g, 0, none⟩), .int .i64 20] rfl (by (try simp only [List.map_toArray, List.map_cons, List.map_nil]); first | done | rfl | (simp only [List.length_drop, List.length_take]; rfl)) ?_; (with_reducible refine (spec_l6Rd_pick.calls k1 g s0_0 x1001_1 20 t986 t987 w0 _ ?side1 ?side2 A25.out).mono ?_); (case side1 => repeat (first | (with_reducible first | exact HI0.out | apply IsS116.alloc | apply IsS116.drewN | apply IsS116.drew | apply IsS116.set_1) | exact HI0.out)); (case side2 => repeat (first | (with_reducible first | exact HB.out | apply below_alloc | apply pw_below_drewN | apply below_drew1 | refine below_set ?_ (IsS116.ge HI0.out)) | exact HB.out)); rintro e w30 ⟨rfl, hi, hb, hk⟩; refine ⟨_, rfl, ?_⟩; have n0_ := am_ (Kd.R_mono (Kd.R_keep (IsS116.apart (show IsS116 w0 _ g s0_0 x1001_1 from by repeat (first | (with_reducible first | exact HI0.out | apply IsS116.alloc | apply IsS116.drewN | apply IsS116.drew | apply IsS116.set_1) | exact HI0.out)) (ru HO_5.out) (by decide)) hk (fun _ h => h.2)) (fun _ h => h.1)); have n1_ := am_ (KeepBut.trans z96_3 hk (.inl rfl)); have n2_ := am_ (hb); have n3_ := am_ (hi); clear HO_5 HK HB HI0; have HO_5 := n0_; have HK := n1_; have HB := n2_; have HI0 := n3_; clear n0_ n1_ n2_ n3_; (try clear hb); (try clear hb2); (try clear hk); (try clear hi)) | ((with_reducible refine gate_callee (f := 71) rfl ?_); refine goesL_ (some 36) rfl rfl Try.func71 (by kernel_rfl) rfl #[.pointer (some ⟨g, 0, none⟩), .int .i64 3] rfl (by (try simp only [List.map_toArray, List.map_cons, List.map_nil]); first | done | rfl | (simp only [List.length_drop, List.length_take]; rfl)) ?_; (with_reducible refine (spec_l6Rd_pick.calls k1 g s0_0 t987 3 t988 t989 w0 _ ?side1 ?side2 A27.out).mono ?_); (case side1 => repeat (first | (with_reducible first | exact HI0.out | apply IsS116.alloc | apply IsS116.drewN | apply IsS116.drew | apply IsS116.set_1) | exact HI0.out)); (case side2 => repeat (first | (with_reducible first | exact HB.out | apply below_alloc | apply pw_below_drewN | apply below_drew1 | refine below_set ?_ (IsS116.ge HI0.out)) | exact HB.out)); rintro e w31 ⟨rfl, hi, hb, hk⟩; refine ⟨_, rfl, ?_⟩; have n0_ := am_ (Kd.R_mono (Kd.R_keep (IsS116.apart (show IsS116 w0 _ g s0_0 t987 from by repeat (first | (with_reducible first | exact HI0.out | apply IsS116.alloc | apply IsS116.drewN | apply IsS116.drew | apply IsS116.set_1) | exact HI0.out)) (ru HO_5.out) (by decide)) hk (fun _ h => h.2)) (fun _ h => h.1)); have n1_ := am_ (KeepBut.trans z96_3 hk (.inl rfl)); have n2_ := am_ (hb); have n3_ := am_ (hi); clear HO_5 HK HB HI0; have HO_5 := n0_; have HK := n1_; have HB := n2_; have HI0 := n3_; clear n0_ n1_ n2_ n3_; (try clear hb); (try clear hb2); (try clear hk); (try clear hi)) | ((with_reducible refine gate_builtin (b := .append) (xs := #[.tmp 34, .tmp 37]) rfl ?_); at_builtin; refine Kd.R_append (Kd.int .i64) w.heap.size rfl (.tmp 34) (.tmp 37) 22 3 (.int .i64 0) 8 rfl Try.underlying22 info3 rfl (by decide) (by omega) (.slice Ao29 x5_1.length co29) x5_1 t988 [.int .i64 t988] (fun _ => True) (fun _ => False) rfl rfl ?aP (fun _ hk => hk.elim) ?aF ?aO (Below.refl _ _) ?aS ?aL ?_; (case aP => exact rfl); (case aF => exact (fun _ _ => trivial)); (case aO => exact (ru HO_5.out)); (case aS => exact (keep_size (w := w) (g := g) (row := none) z96_3)); (case aL => have := LMc28.out; omega); intro v991 w32 ho hb hg hat; rw [← Ny990.out] at ho; have n0_ := am_ (IsS116.grown z96_4 hg (IsS116.own_ne HI0.out HO_5.out (by decide))); have n1_ := am_ (below_weaken z96_5 HL.out hb); have n2_ := am_ (KeepBut.trans z96_3 (KeepBut.of_grown hg g) (Kd.R_base2 HO_5.out)); have n3_ := am_ (ho); clear HI0 HB HK HO_5; have HI0 := n0_; have HB := n1_; have HK := n2_; have HO992 := n3_; clear n0_ n1_ n2_ n3_; clear ho hb hg hat))
      go_ret
      exact ⟨_, z96_2, ru HO992.out, z96_4, z96_5, z96_3⟩
     ·rw [if_neg c28] at H
      exact absurd H (by simp)
    ·rw [if_neg c26] at H
     have c26b0 : (t986 == 0) = false := beq_eq_false_iff_ne.mpr c26
     have c26b1 : (t986 != 0) = true := bne_iff_ne.mpr c26
     simp only [Option.some.injEq, Prod.mk.injEq] at H
     obtain ⟨rfl, rfl⟩ := H
     obtain ⟨Ao33, co33, eo33⟩ := Kd.R_slice HO_5.out
     subst eo33
     go_wp2_with (first | ((with_reducible refine gate_callee (f := 71) rfl ?_); refine goesL_ (some 32) rfl rfl Try.func71 (by kernel_rfl) rfl #[.pointer (some ⟨g, 0, none⟩), .int .i64 20] rfl (by (try simp only [List.map_toArray, List.map_cons, List.map_nil]); first | done | rfl | (simp only [List.length_drop, List.length_take]; rfl)) ?_; (with_reducible refine (spec_l6Rd_pick.calls k1 g s0_0 x1001_1 20 t986 t987 w0 _ ?side1 ?side2 A25.out).mono ?_); (case side1 => repeat (first | (with_reducible first | exact HI0.out | apply IsS116.alloc | apply IsS116.drewN | apply IsS116.drew | apply IsS116.set_1) | exact HI0.out)); (case side2 => repeat (first | (with_reducible first | exact HB.out | apply below_alloc | apply pw_below_drewN | apply below_drew1 | refine below_set ?_ (IsS116.ge HI0.out)) | exact HB.out)); rintro e w34 ⟨rfl, hi, hb, hk⟩; refine ⟨_, rfl, ?_⟩; have n0_ := am_ (Kd.R_mono (Kd.R_keep (IsS116.apart (show IsS116 w0 _ g s0_0 x1001_1 from by repeat (first | (with_reducible first | exact HI0.out | apply IsS116.alloc | apply IsS116.drewN | apply IsS116.drew | apply IsS116.set_1) | exact HI0.out)) (ru HO_5.out) (by decide)) hk (fun _ h => h.2)) (fun _ h => h.1)); have n1_ := am_ (KeepBut.trans z96_3 hk (.inl rfl)); have n2_ := am_ (hb); have n3_ := am_ (hi); clear HO_5 HK HB HI0; have HO_5 := n0_; have HK := n1_; have HB := n2_; have HI0 := n3_; clear n0_ n1_ n2_ n3_; (try clear hb); (try clear hb2); (try clear hk); (try clear hi)))
     go_ret
     exact ⟨_, z96_2, ru HO_5.out, z96_4, z96_5, z96_3⟩

end Go.Proofs.Ytefkbmhkhpekjaa.PB

namespace Go.Proofs.Ytefkbmhkhpekjaa.PB
open Go.RowKit Go.Proofs.YtefkbmhkhpekjaaW.PrintWords Go.Proofs.YtefkbmhkhpekjaaW.PrintLast Go.Proofs.YtefkbmhkhpekjaaW.PrintMore
attribute [local go_sem] max2_int min2_int max_two min_two max_three min_three max_four min_four   -- for this text's walks alone
open Go.Proofs.YtefkbmhkhpekjaaMine
set_option linter.unusedVariables false
set_option linter.unusedSimpArgs false

theorem z46_1 {p : Prop} (h : p := by repeat (first | (with_reducible first | exact HB.out | apply below_alloc | apply pw_below_drewN | apply below_drew1) | exact HB.out)) : p := h
theorem z46_2 {p : Prop} (h : p := by repeat (first | (with_reducible first | exact HI996.out | apply IsS116.alloc | apply IsS116.drewN | apply IsS116.drew | apply IsS116.set_1 | refine IsS116.far ?_ NB996_993.out _) | exact HI996.out)) : p := h
theorem z46_3 {p : Prop} (h : p := by repeat (first | (with_reducible first | exact HB.out | apply below_alloc | apply pw_below_drewN | apply below_drew1 | refine below_set ?_ (IsS116.ge HI996.out) | refine below_set ?_ GE993.out) | exact HB.out)) : p := h
theorem z46_4 {p : Prop} (h : p := by repeat (first | (with_reducible first | exact HB.out | apply below_alloc | apply pw_below_drewN | apply below_drew1 | refine below_set ?_ (IsS116.ge HI996.out) | refine below_set ?_ GE993.out | refine below_set ?_ GE1001.out) | exact HB.out)) : p := h
/-! ### spec_DrawTurnThreads: function 46 -/
def spec_DrawTurnThreads.f (k : Nat) (l0 : List Int) : Option ((List (List (S85))) × List Int) := (spec_l6Open.f l0).bind fun bt994 => ((spec_l71Any.f k bt994.1 bt994.2).bind fun bt997 => ((spec_l71Row.f k bt994.1 bt997.2 (bt997.1.length : Int)).bind fun bt1002 => (some (bt997.1, bt1002.1))))
theorem spec_DrawTurnThreads.mono : ∀ a0 k, LeO (spec_DrawTurnThreads.f k a0) (spec_DrawTurnThreads.f (k + 1) a0) := by
  intro a0 k
  unfold spec_DrawTurnThreads.f
  repeat' first
      | (with_reducible exact spec_l71Any.mono _ _ _)
      | (with_reducible exact spec_l71Row.mono _ _ _ _)
      | (with_reducible exact LeO.refl _)
      | (with_reducible exact LeO.none _)
      | (with_reducible refine LeO.ite ?_ ?_)
      | (with_reducible refine LeO.bind ?_ (fun _ => ?_))
      | exact spec_l71Any.mono _ _ _
      | exact spec_l71Row.mono _ _ _ _
      | exact LeO.none _
      | refine LeO.ite ?_ ?_
      | refine LeO.bind ?_ (fun _ => ?_)
def spec_DrawTurnThreads.T3 : Bool × List (List Nat × List Nat) := (true, [([], []), ([], []), ([], []), ([2], [2]), ([3], [3]), ([1, 4], [1, 4]), ([0, 5, 0], [0]), ([5, 6, 0, 1, 2, 3, 4, 5, 6], [5])])
def spec_DrawTurnThreads.B3 : List Nat := [0, 0, 0, 4, 12, 30, 63, 127]
theorem spec_DrawTurnThreads.tab3 : rtab .any (opsOf Try.f46 3) = spec_DrawTurnThreads.T3 := by kernel_rfl
theorem spec_DrawTurnThreads.bits3 : waitsOk spec_DrawTurnThreads.T3.2 spec_DrawTurnThreads.B3 = true := by kernel_rfl
set_option maxHeartbeats 8000000 in
set_option maxRecDepth 100000 in
theorem spec_DrawTurnThreads.calls (k : Nat) (A0 : Option Addr) (c0 : Nat) (l0 : List Int) (r1 : List (List (S85))) (r2 : List Int) (w : World) (hr0 : Kd.C (Kd.int .u8) w A0 l0.length l0) (hc0 : l0.length ≤ c0) (h : spec_DrawTurnThreads.f k l0 = some (r1, r2)) :
  Calls Try.prog 46 #[.slice A0 l0.length c0] w fun e w' => ∃ v0_ v1_ : Value, e = .returned (.tuple #[.agg #[v0_], v1_]) ∧ Kd.N (Kd.slice 85 k85) 82 w' w.heap.size (fun k_ => (w.heap.size ≤ k_) ∧ some k_ ≠ (v1_ : Value).ownBlock) v0_ r1 ∧ Kd.R (Kd.int .i64) 3 w' w.heap.size (fun k_ => (w.heap.size ≤ k_)) v1_ r2 ∧ Below w.heap.size w w' := by
 have hu35 := Try.underlying35
 have HR0 := am_ hr0
 have HC0 := am_ hc0
 clear hr0 hc0
 have HB := am_ (Below.refl w.heap.size w)
 have H : ((spec_l6Open.f l0).bind fun bt994 => ((spec_l71Any.f k bt994.1 bt994.2).bind fun bt997 => ((spec_l71Row.f k bt994.1 bt997.2 (bt997.1.length : Int)).bind fun bt1002 => (some (bt997.1, bt1002.1))))) = some (r1, r2) := h
 clear h
 replace H := Option.bind_eq_some_iff.mp H
 obtain ⟨⟨t994, t995⟩, A20, H⟩ := H
 replace H : ((spec_l71Any.f k t994 t995).bind fun bt997 => ((spec_l71Row.f k t994 bt997.2 (bt997.1.length : Int)).bind fun bt1002 => (some (bt997.1, bt1002.1)))) = some (r1, r2) := H
 have A2 := am_ A20
 clear A20
 replace H := Option.bind_eq_some_iff.mp H
 obtain ⟨⟨t997, t1000⟩, A30, H⟩ := H
 replace H : ((spec_l71Row.f k t994 t1000 (t997.length : Int)).bind fun bt1002 => (some (t997, bt1002.1))) = some (r1, r2) := H
 have A3 := am_ A30
 clear A30
 replace H := Option.bind_eq_some_iff.mp H
 obtain ⟨⟨t1002, t1005⟩, A40, H⟩ := H
 replace H : (some (t997, t1002)) = some (r1, r2) := H
 have A4 := am_ A40
 clear A40
 simp only [Option.some.injEq, Prod.mk.injEq] at H
 obtain ⟨rfl, rfl⟩ := H
 go_enter Try.func46, Try.ntmps46
 try go_wp2_with (first | ((with_reducible refine gate_dst (N := 2) rfl ?_); refine box_event ?hg (N := 2) ?hd (cs := #[.slice none 0 0]) (t := 35) ?hr ?_; (case hd => rfl); (case hg => rfl); (case hr => first | (go_simp; done) | (go_simp; rfl)); intro gb993 hg w5 hbox hb; have n0_ := am_ (below_step z46_1 hb); have n1_ := am_ (hbox); have n2_ := am_ (by rw [hg]; exact (below_size z46_1) : w.heap.size ≤ gb993); have n3_ := am_ (by rw [hg]; exact (below_size z46_1) : w.heap.size ≤ gb993); clear HB; have HB := n0_; have BK993 := n1_; have GW993 := n2_; have GE993 := n3_; clear n0_ n1_ n2_ n3_; clear hb hbox hg) | ((with_reducible refine gate_callee (f := 70) rfl ?_); refine goesL_ (some 7) rfl rfl Try.func70 (by kernel_rfl) rfl #[.slice A0 l0.length c0] rfl (by (try simp only [List.map_toArray, List.map_cons, List.map_nil]); first | done | rfl | (simp only [List.length_drop, List.length_take]; rfl)) ?_; (with_reducible refine (spec_l6Open.calls _ _ l0 t994 t995 w _ ?side1 ?side2 ?side3 A2.out).mono ?_); (case side1 => repeat (first | (with_reducible first | exact HB.out | apply below_alloc | apply pw_below_drewN | apply below_drew1 | refine below_set ?_ GE993.out) | exact HB.out)); (case side2 => exact HR0.out); (case side3 => exact HC0.out); rintro e w6 ⟨g996, rfl, hi, hb, hb2⟩; refine ⟨_, rfl, ?_⟩; have n0_ := am_ (blk_below (bu BK993.out) hb2); have n1_ := am_ (hb); have n2_ := am_ (hi); have n3_ := am_ (IsS116.ne_blk hi (blk_below (bu BK993.out) hb2) (by decide)); have n4_ := am_ (Ne.symm (IsS116.ne_blk hi (blk_below (bu BK993.out) hb2) (by decide))); clear BK993 HB; have BK993 := n0_; have HB := n1_; have HI996 := n2_; have NB996_993 := n3_; have NB993_996 := n4_; clear n0_ n1_ n2_ n3_ n4_; (try clear hb); (try clear hb2); (try clear hk); (try clear hi)) | ((with_reducible refine gate_callee (f := 92) rfl ?_); refine goesL_ (some 9) rfl rfl Try.func92 (by kernel_rfl) rfl #[.pointer (some ⟨g996, 0, none⟩)] rfl (by (try simp only [List.map_toArray, List.map_cons, List.map_nil]); first | done | rfl | (simp only [List.length_drop, List.length_take]; rfl)) ?_; (with_reducible refine (spec_l71Any.calls k g996 t994 t995 t997 t1000 w _ ?side1 ?side2 A3.out).mono ?_); (case side1 => repeat (first | (with_reducible first | exact HI996.out | apply IsS116.alloc | apply IsS116.drewN | apply IsS116.drew | apply IsS116.set_1 | refine IsS116.far ?_ NB996_993.out _) | exact HI996.out)); (case side2 => repeat (first | (with_reducible first | exact HB.out | apply below_alloc | apply pw_below_drewN | apply below_drew1 | refine below_set ?_ (IsS116.ge HI996.out) | refine below_set ?_ GE993.out) | exact HB.out)); rintro e w7 ⟨v998, rfl, ho0, hi, hb, hk⟩; refine ⟨_, rfl, ?_⟩; have n0_ := am_ (KeepBut.blk hk (bu BK993.out) NB993_996.out (by simp)); have n1_ := am_ (Kd.N_lower (Kd.N_mono (ok' := fun k_ => (w.heap.size ≤ k_) ∧ k_ ≠ gb993 ∧ k_ ≠ g996) ho0 (fun k_ hk_ => ⟨(Nat.le_trans (below_size z46_3) hk_), (Kd.freshB (bu BK993.out) k_ hk_), (IsS116.fresh z46_2 k_ hk_)⟩)) (below_size z46_3)); have n2_ := am_ (hb); have n3_ := am_ (hi); clear BK993 HB HI996; have BK993 := n0_; have HO999 := n1_; have HB := n2_; have HI996 := n3_; clear n0_ n1_ n2_ n3_; (try clear hb); (try clear hb2); (try clear hk); (try clear hi); (try clear ho0)) | ((with_reducible refine gate_dst (N := 5) rfl ?_); refine box_event ?hg (N := 5) ?hd (cs := #[.slice none 0 0]) (t := 35) ?hr ?_; (case hd => rfl); (case hg => rfl); (case hr => first | (go_simp; done) | (go_simp; rfl)); intro gb1001 hg w8 hbox hb; have n0_ := am_ (Kd.N_below (Kd.N_elderB (nu HO999.out) gb1001 (Nat.le_of_eq hg.symm)) hb); have n1_ := am_ (blk_below (bu BK993.out) hb); have n2_ := am_ (IsS116.below z46_2 hb); have n3_ := am_ (below_step z46_3 hb); have n4_ := am_ (hbox); have n5_ := am_ (by rw [hg]; exact (below_size z46_3) : w.heap.size ≤ gb1001); have n6_ := am_ (by rw [hg]; exact (below_size z46_3) : w.heap.size ≤ gb1001); have n7_ := am_ (by rw [hg]; exact Nat.ne_of_lt (blk_lt (bu BK993.out)) : gb993 ≠ gb1001); have n8_ := am_ (by rw [hg]; exact Nat.ne_of_gt (blk_lt (bu BK993.out)) : gb1001 ≠ gb993); have n9_ := am_ (by rw [hg]; exact Nat.ne_of_lt (IsS116.lt (show IsS116 w _ g996 t994 t1000 from by repeat (first | (with_reducible first | exact HI996.out | apply IsS116.alloc | apply IsS116.drewN | apply IsS116.drew | apply IsS116.set_1 | refine IsS116.far ?_ NB996_993.out _) | exact HI996.out))) : g996 ≠ gb1001); have n10_ := am_ (by rw [hg]; exact Nat.ne_of_gt (IsS116.lt (show IsS116 w _ g996 t994 t1000 from by repeat (first | (with_reducible first | exact HI996.out | apply IsS116.alloc | apply IsS116.drewN | apply IsS116.drew | apply IsS116.set_1 | refine IsS116.far ?_ NB996_993.out _) | exact HI996.out))) : gb1001 ≠ g996); clear HO999 BK993 HI996 HB; have HO999 := n0_; have BK993 := n1_; have HI996 := n2_; have HB := n3_; have BK1001 := n4_; have GW1001 := n5_; have GE1001 := n6_; have NB993_1001 := n7_; have NB1001_993 := n8_; have NB996_1001 := n9_; have NB1001_996 := n10_; clear n0_ n1_ n2_ n3_ n4_ n5_ n6_ n7_ n8_ n9_ n10_; clear hb hbox hg; obtain ⟨Ao9, co9, eo9⟩ := Kd.N_slice HO999.out; subst eo9; have hnb10 := NB1001_993.out; have hnc10 := NB993_1001.out; have hnb11 := NB1001_996.out; have hnc11 := NB996_1001.out; have hcz12_0 : w8.cell? ⟨gb1001, 0, none⟩ = some (.slice none 0 0) := (blk_cell BK1001.out 0).trans rfl; have hfz12_0 := blk_frozen BK1001.out 0))
 have n0_ : Aside0 (Kd.N (Kd.slice 85 k85) 82 (w8.setCell ⟨gb1001, 0, none⟩ (.slice Ao9 t997.length co9)) w.heap.size (fun k_ => (w.heap.size ≤ k_) ∧ k_ ≠ gb993 ∧ k_ ≠ g996 ∧ k_ ≠ gb1001) (.slice Ao9 t997.length co9) t997) := ⟨nu (Kd.N_mono (Kd.N_far (p := ⟨gb1001, 0, none⟩) (Kd.N_mono HO999.out (fun k_ hk => (⟨hk, hk.2⟩ : _ ∧ k_ ≠ gb1001))) (fun _ hk => hk.2) (.slice Ao9 t997.length co9)) (fun _ hk => ⟨hk.1.1.1, ⟨hk.1.1.2.1, ⟨hk.1.1.2.2, hk.1.2⟩⟩⟩))⟩
 have n1_ : Aside0 ((w8.setCell ⟨gb1001, 0, none⟩ (.slice Ao9 t997.length co9)).heap[gb993]? = some (.cells #[.slice none 0 0] 35 (0, 0))) := ⟨by (with_reducible repeat (first | refine blk_drewN ?_ _ | refine blk_drew ?_ | refine blk_alloc ?_ _)); refine blk_far ?_ NB993_1001.out _; (with_reducible repeat (first | refine blk_drewN ?_ _ | refine blk_drew ?_ | refine blk_alloc ?_ _)); exact BK993.out⟩
 have n2_ : Aside0 ((w8.setCell ⟨gb1001, 0, none⟩ (.slice Ao9 t997.length co9)).heap[gb1001]? = some (.cells #[.slice Ao9 t997.length co9] 35 (0, 0))) := ⟨by (with_reducible repeat (first | refine blk_drewN ?_ _ | refine blk_drew ?_ | refine blk_alloc ?_ _)); refine blk_put (cs := #[.slice none 0 0]) ?_ 0 _ rfl; (with_reducible repeat (first | refine blk_drewN ?_ _ | refine blk_drew ?_ | refine blk_alloc ?_ _)); exact BK1001.out⟩
 have n3_ : Aside0 (IsS116 w (w8.setCell ⟨gb1001, 0, none⟩ (.slice Ao9 t997.length co9)) g996 t994 t1000) := ⟨by repeat (first | (with_reducible first | exact HI996.out | apply IsS116.alloc | apply IsS116.drewN | apply IsS116.drew | apply IsS116.set_1 | refine IsS116.far ?_ NB996_993.out _ | refine IsS116.far ?_ NB996_1001.out _) | exact HI996.out)⟩
 have n4_ : Aside0 (Below w.heap.size w (w8.setCell ⟨gb1001, 0, none⟩ (.slice Ao9 t997.length co9))) := ⟨z46_4⟩
 (try clear HO999)
 (try clear BK993)
 (try clear BK1001)
 (try clear HI996)
 (try clear HB)
 generalize (w8.setCell ⟨gb1001, 0, none⟩ (.slice Ao9 t997.length co9)) = w13 at n0_ n1_ n2_ n3_ n4_ ⊢
 have HO999 := n0_
 have BK993 := n1_
 have BK1001 := n2_
 have HI996 := n3_
 have HB := n4_
 clear n0_ n1_ n2_ n3_ n4_
 have n0_ := am_ (Kd.N_drew HO999.out)
 have n1_ := am_ (blk_drew BK993.out)
 have n2_ := am_ (blk_drew BK1001.out)
 have n3_ := am_ (IsS116.drew HI996.out)
 have n4_ := am_ (below_drew1 HB.out)
 clear HO999 BK993 BK1001 HI996 HB
 have HO999 := n0_
 have BK993 := n1_
 have BK1001 := n2_
 have HI996 := n3_
 have HB := n4_
 clear n0_ n1_ n2_ n3_ n4_
 refine start_ (n := 8) (S := fun w' => w'.cell? ⟨gb1001, 0, none⟩ = some (.slice Ao9 t997.length co9)) (ds := []) #[false, false, false, false, false, false, false, false] (by kernel_rfl) rfl rfl ((blk_cell BK1001.out 0).trans rfl) (fun hHeld => ?_); refine with_tabW spec_DrawTurnThreads.tab3 spec_DrawTurnThreads.bits3 (fun HT_ HW_ => ?_)
 generalize w13.drew = w14 at HO999 BK993 BK1001 HI996 HB hHeld ⊢
 refine pure_ (i := 1) (N := some 11) (v := ?_) (a' := ?_) #[false, true, false, false, false, false, false, false] rfl rfl (any_of HT_.out (by kernel_rfl)) (fun _ _ _ h => h) (Or.inl ⟨by rfl, ?_⟩) ?_ ?_
 rotate_left
 ·intro w'
  go_simp
  with_reducible rfl
 rotate_left
 ·simp only [Act.put, List.setIfInBounds_toArray, List.set_cons_zero, List.set_cons_succ, i64_w, i32_w]
  rfl
 refine pure_ (i := 2) (N := some 12) (v := ?_) (a' := ?_) #[false, true, true, false, false, false, false, false] rfl rfl (any_of HT_.out (by kernel_rfl)) (fun _ _ _ h => h) (Or.inl ⟨by rfl, ?_⟩) ?_ ?_
 rotate_left
 ·intro w'
  go_simp
  with_reducible rfl
 rotate_left
 ·simp only [Act.put, List.setIfInBounds_toArray, List.set_cons_zero, List.set_cons_succ, i64_w, i32_w]
  rfl
 refine take_ (i := 0) (N := some 10) (v := ?_) (a' := ?_) #[true, true, true, false, false, false, false, false] rfl rfl (take_ofW HT_.out HW_.out (by kernel_rfl)) (fun _ _ _ h => h) (Or.inl ⟨by rfl, ?_⟩) hHeld ?_ ?_
 rotate_left
 ·intro w' s0
  go_simp
  with_reducible rfl
 rotate_left
 ·simp only [Act.put, List.setIfInBounds_toArray, List.set_cons_zero, List.set_cons_succ, i64_w, i32_w]
  rfl
 refine take_ (i := 3) (N := some 13) (v := ?_) (a' := ?_) #[true, true, true, true, false, false, false, false] rfl rfl (take_ofW HT_.out HW_.out (by kernel_rfl)) (fun _ _ _ h => h) (Or.inl ⟨by rfl, ?_⟩) hHeld ?_ ?_
 rotate_left
 ·intro w' s0
  go_simp
  with_reducible rfl
 rotate_left
 ·simp only [Act.put, List.setIfInBounds_toArray, List.set_cons_zero, List.set_cons_succ, i64_w, i32_w]
  rfl
 refine pure_ (i := 4) (N := some 14) (v := ?_) (a' := ?_) #[true, true, true, true, true, false, false, false] rfl rfl (any_of HT_.out (by kernel_rfl)) (fun _ _ _ h => h) (Or.inl ⟨by rfl, ?_⟩) ?_ ?_
 rotate_left
 ·intro w'
  go_simp
  with_reducible rfl
 rotate_left
 ·simp only [Act.put, List.setIfInBounds_toArray, List.set_cons_zero, List.set_cons_succ, i64_w, i32_w]
  rfl
 refine one_ (i := 5) (N := some 15) #[true, true, true, true, true, true, false, false] rfl rfl (one_of HT_.out (by kernel_rfl)) (by decide) (fun K hK => ?_)
 refine goes_ Try.func96 (by kernel_rfl) rfl #[.pointer (some ⟨g996, 0, none⟩), .int .i64 (t997.length : Int)] (by rfl) rfl rfl (by (try simp only [List.map_toArray, List.map_cons, List.map_nil]); first | done | rfl | (simp only [List.length_drop, List.length_take]; rfl)) ?_
 with_reducible refine (spec_l71Row.calls k g996 t994 t1000 (t997.length : Int) t1002 t1005 w _ ?side1 ?side2 A4.out).mono ?_
 (case side1 => repeat (first | (with_reducible first | exact HI996.out | apply IsS116.alloc | apply IsS116.drewN | apply IsS116.drew | apply IsS116.set_1 | refine IsS116.far ?_ NB996_993.out _ | refine IsS116.far ?_ NB996_1001.out _) | exact HI996.out))
 (case side2 => repeat (first | (with_reducible first | exact HB.out | apply below_alloc | apply pw_below_drewN | apply below_drew1 | refine below_set ?_ (IsS116.ge HI996.out) | refine below_set ?_ GE993.out | refine below_set ?_ GE1001.out) | exact HB.out))
 rintro e w15 ⟨v1003, rfl, ho0, hi, hb, hk⟩
 refine ⟨_, rfl, ?_⟩
 have n0_ := am_ (KeepBut.blk hk (bu BK993.out) NB993_996.out (by simp))
 have n1_ := am_ (Kd.N_mono (Kd.N_told (Kd.N_oldK (Kd.N_mono (ok := fun k_ => (((w.heap.size ≤ k_)) ∧ (k_ ≠ gb993 ∧ (k_ ≠ g996 ∧ k_ ≠ gb1001)))) (nu HO999.out) (fun k_ hk_ => (⟨hk_, hk_.2.2.1⟩ : _ ∧ k_ ≠ g996))) hk) (Kd.R_base ho0)) (fun _ h_ => h_.1))
 have n2_ := am_ (KeepBut.blk hk (bu BK1001.out) NB1001_996.out (by simp))
 have n3_ := am_ (Kd.R_lower (Kd.R_newM (M := fun k_ => (w.heap.size ≤ k_)) ho0 (below_size z46_4) (fun k_ h_ => h_)) (below_size z46_4))
 have n4_ := am_ (hb)
 have n5_ := am_ (hi)
 clear BK993 HO999 BK1001 HB HI996
 have BK993 := n0_
 have HO999 := n1_
 have BK1001 := n2_
 have HO1004 := n3_
 have HB := n4_
 have HI996 := n5_
 clear n0_ n1_ n2_ n3_ n4_ n5_
 (try clear hb)
 (try clear hb2)
 (try clear hk)
 (try clear hi)
 (try clear ho0)
 refine hK.out _ _ ((blk_cell BK1001.out 0).trans rfl) (fun hHeld => ?_)
 clear hK K
 refine norm_ (a' := ?_) ?_ ?_
 rotate_left
 ·show Act.put _ (some 15) _ = _
  simp only [Act.put, List.setIfInBounds_toArray, List.set_cons_zero, List.set_cons_succ, i64_w, i32_w]
  rfl
 refine one_ (i := 6) (N := none) #[true, true, true, true, true, true, true, false] rfl rfl (one_of HT_.out (by kernel_rfl)) (by decide) (fun K hK => ?_)
 have hs16 : w15.cell? ⟨gb993, 0, none⟩ = some (.slice none 0 0) := (blk_cell BK993.out 0).trans rfl
 have hfs16 := blk_frozen BK993.out 0
 have hns16_1 := NB1001_993.out
 have hms16_1 := NB993_1001.out
 refine skip_ (w1 := ?_) (by rfl) rfl ?_ ?_
 rotate_left
 ·go_simp
  rfl
 refine hK.out _ _ (((cell_far (p := ⟨gb993, _, none⟩) NB1001_993.out _).trans (hHeld))) (fun hHeld => ?_)
 clear hK K
 refine pure_ (i := 7) (N := some 3) (v := ?_) (a' := ?_) #[true, true, true, true, true, true, true, true] rfl rfl (any_of HT_.out (by kernel_rfl)) (fun _ _ _ h => h) (Or.inl ⟨by rfl, ?_⟩) ?_ ?_
 rotate_left
 ·intro w'
  go_simp
  with_reducible rfl
 rotate_left
 ·simp only [Act.put, List.setIfInBounds_toArray, List.set_cons_zero, List.set_cons_succ, i64_w, i32_w]
  rfl
 refine done_ (done_of HT_.out (by kernel_rfl)) ?_
 try go_wp2
 refine bodyPost_ret (results_ct rfl _ _ gb993 35 #[.slice Ao9 t997.length co9] (0, 0) _ rfl (by (with_reducible repeat (first | refine blk_drewN ?_ _ | refine blk_drew ?_ | refine blk_alloc ?_ _)); refine blk_put (cs := #[.slice none 0 0]) ?_ 0 _ rfl; (with_reducible repeat (first | refine blk_drewN ?_ _ | refine blk_drew ?_ | refine blk_alloc ?_ _)); exact BK993.out) Try.underlying35 rfl (by kernel_rfl)) rfl ?_
 exact ⟨_, _, by first | rfl | (simp [errW_none, errW_some] <;> rfl) | (simp [*, errW_none, errW_some] <;> rfl), nu (Kd.N_mono (Kd.N_far (p := ⟨gb993, 0, none⟩) (Kd.N_mono HO999.out (fun k_ hk => (⟨hk, hk.1.2.1⟩ : _ ∧ k_ ≠ gb993))) (fun _ hk => hk.2) (.slice Ao9 t997.length co9)) (fun _ hk => ⟨hk.1.1.1, hk.1.2⟩)), ru (Kd.R_mono (Kd.R_far (p := ⟨gb993, 0, none⟩) (Kd.R_types HO1004.out BK993.out (by decide)) (fun _ hk => hk.2) (.slice Ao9 t997.length co9)) (fun _ hk => hk.1.1)), z46_4⟩

end Go.Proofs.Ytefkbmhkhpekjaa.PB

namespace Go.Proofs.Ytefkbmhkhpekjaa.PB
open Go.RowKit Go.Proofs.YtefkbmhkhpekjaaW.PrintWords Go.Proofs.YtefkbmhkhpekjaaW.PrintLast Go.Proofs.YtefkbmhkhpekjaaW.PrintMore
attribute [local go_sem] max2_int min2_int max_two min_two max_three min_three max_four min_four   -- for this text's walks alone
open Go.Proofs.YtefkbmhkhpekjaaMine
set_option linter.unusedVariables false
set_option linter.unusedSimpArgs false

theorem z133_1 {p : Prop} (h : p := by first | rfl | (simp; done) | (simp [*]; done)) : p := h
theorem z133_2 {p : Prop} (h : p := by first | (with_reducible assumption) | assumption) : p := h
theorem z133_3 {p : Prop} (h : p := by repeat (first | exact Drawn0.refl _ | apply Drawn0.step)) : p := h
/-! ### slices_Index_int_int: function 133 -/
def slices_Index_int_int.l0 : Nat → List Int → Int → Int → Int → Option (Int)
  | 0, _, _, _, _ => none
  | k + 1, x0, x1, x7, x8 => if x8 < x7 then (if 0 ≤ x8 then (if x8 < (x0.length : Int) then (if x1 = (rd x0 x8) then (some x8) else (slices_Index_int_int.l0 k x0 x1 x7 (wrap64 (x8 + 1)))) else (none)) else (none)) else (some (-1))
def slices_Index_int_int.f (k : Nat) (l0 : List Int) (a1 : Int) : Option (Int) := slices_Index_int_int.l0 k l0 a1 (l0.length : Int) 0
theorem slices_Index_int_int.mono_l : ∀ k, (∀ y0 y1 y2 y3, LeO (slices_Index_int_int.l0 k y0 y1 y2 y3) (slices_Index_int_int.l0 (k + 1) y0 y1 y2 y3))
  | 0 => fun _ _ _ _ r h => by simp [slices_Index_int_int.l0] at h
  | k + 1 => by
    have ih0 := slices_Index_int_int.mono_l k
    · intro y0 y1 y2 y3
      unfold slices_Index_int_int.l0
      repeat' first
      | (with_reducible exact ih0 _ _ _ _)
      | (with_reducible exact LeO.refl _)
      | (with_reducible exact LeO.none _)
      | (with_reducible refine LeO.ite ?_ ?_)
      | (with_reducible refine LeO.bind ?_ (fun _ => ?_))
      | exact ih0 _ _ _ _
      | exact LeO.none _
      | refine LeO.ite ?_ ?_
      | refine LeO.bind ?_ (fun _ => ?_)
theorem slices_Index_int_int.mono : ∀ a0 a1 k, LeO (slices_Index_int_int.f k a0 a1) (slices_Index_int_int.f (k + 1) a0 a1) := by
  intro a0 a1 k
  have ih0 := slices_Index_int_int.mono_l k
  unfold slices_Index_int_int.f
  repeat' first
      | (with_reducible exact ih0 _ _ _ _)
      | (with_reducible exact LeO.refl _)
      | (with_reducible exact LeO.none _)
      | (with_reducible refine LeO.ite ?_ ?_)
      | (with_reducible refine LeO.bind ?_ (fun _ => ?_))
      | exact ih0 _ _ _ _
      | exact LeO.none _
      | refine LeO.ite ?_ ?_
      | refine LeO.bind ?_ (fun _ => ?_)
set_option maxHeartbeats 8000000 in
set_option maxRecDepth 100000 in
theorem slices_Index_int_int.calls (k : Nat) (A0 : Option Addr) (c0 : Nat) (l0 : List Int) (a1 : Int) (r : Int) (w : World) (hr0 : Kd.C (Kd.int .i64) w A0 l0.length l0) (hc0 : l0.length ≤ c0) (h : slices_Index_int_int.f k l0 a1 = some r) :
  Calls Try.prog 133 #[.slice A0 l0.length c0, .int .i64 a1] w fun e w' => e = .returned (.int .i64 r) ∧ Drawn0 w w' := by
 have HR0 := am_ hr0
 have HC0 := am_ hc0
 clear hr0 hc0
 have H : (slices_Index_int_int.l0 k l0 a1 (l0.length : Int) 0) = some r := h
 clear h
 have H' := am_ H
 clear H
 go_enter Try.func133, Try.ntmps133
 go_wp2
 go_loopg [8] k (fun kq v8 w' => ∃ (x8_1 : Int), v8 = .int .i64 x8_1 ∧ Aside0 (slices_Index_int_int.l0 kq l0 a1 (l0.length : Int) x8_1 = some r) ∧ Aside0 (kq ≤ k) ∧ Drawn0 w w')
 case atStart => exact ⟨(0), z133_1, H', ⟨Nat.le_refl _⟩, z133_3⟩
 case round =>
  clear H'
  obtain ⟨x8_1, rfl, HA, HK1, ⟨m1, rfl⟩⟩ := hrel
  cases gk with
  | zero => exact absurd HA.out (by simp [slices_Index_int_int.l0])
  | succ k1 =>
   have H := HA.out
   clear HA
   simp only [slices_Index_int_int.l0] at H
   by_cases c3 : x8_1 < (l0.length : Int)
   ·rw [if_pos c3] at H
    have c3b0 : decide (x8_1 < (l0.length : Int)) = true := decide_eq_true c3
    clear c3
    by_cases c4 : 0 ≤ x8_1
    ·rw [if_pos c4] at H
     have c4b0 : decide (0 ≤ x8_1) = true := decide_eq_true c4
     clear c4
     by_cases c5 : x8_1 < (l0.length : Int)
     ·rw [if_pos c5] at H
      have c5b0 : decide (x8_1 < (l0.length : Int)) = true := decide_eq_true c5
      clear c5
      by_cases c6 : a1 = (rd l0 x8_1)
      ·rw [if_pos c6] at H
       have c6b0 : (a1 == (rd l0 x8_1)) = true := beq_iff_eq.mpr c6
       have c6b1 : (a1 != (rd l0 x8_1)) = false := bne_eq_false_iff_eq.mpr c6
       clear c6
       obtain rfl := Option.some.inj H
       have p456 : 0 ≤ (x8_1 : Int) := of_decide_eq_true z133_2
       have q456 : x8_1 < (l0.length : Int) := of_decide_eq_true z133_2
       obtain ⟨ad456, e456, hx456_0⟩ := Kd.at_int HR0.out x8_1 p456 q456
       cases e456
       replace p456 := eq_true p456
       replace q456 := eq_true q456
       go_wp2
       go_ret
       exact ⟨z133_1, z133_3⟩
      ·rw [if_neg c6] at H
       have c6b0 : (a1 == (rd l0 x8_1)) = false := beq_eq_false_iff_ne.mpr c6
       have c6b1 : (a1 != (rd l0 x8_1)) = true := bne_iff_ne.mpr c6
       have H' := am_ H
       clear H
       have p456 : 0 ≤ (x8_1 : Int) := of_decide_eq_true z133_2
       have q456 : x8_1 < (l0.length : Int) := of_decide_eq_true z133_2
       obtain ⟨ad456, e456, hx456_0⟩ := Kd.at_int HR0.out x8_1 p456 q456
       cases e456
       replace p456 := eq_true p456
       replace q456 := eq_true q456
       go_wp2
       go_roundg k1
       case measure => have := HK1.out; omega
       case rel => exact ⟨(wrap64 (x8_1 + 1)), z133_1, H', ⟨by have := HK1.out; omega⟩, z133_3⟩
     ·rw [if_neg c5] at H
      exact absurd H (by simp)
    ·rw [if_neg c4] at H
     exact absurd H (by simp)
   ·rw [if_neg c3] at H
    have c3b0 : decide (x8_1 < (l0.length : Int)) = false := decide_eq_false c3
    clear c3
    obtain rfl := Option.some.inj H
    go_wp2
    go_ret
    exact ⟨z133_1, z133_3⟩

end Go.Proofs.Ytefkbmhkhpekjaa.PB

namespace Go.Proofs.Ytefkbmhkhpekjaa.PB
open Go.RowKit Go.Proofs.YtefkbmhkhpekjaaW.PrintWords Go.Proofs.YtefkbmhkhpekjaaW.PrintLast Go.Proofs.YtefkbmhkhpekjaaW.PrintMore
attribute [local go_sem] max2_int min2_int max_two min_two max_three min_three max_four min_four   -- for this text's walks alone
open Go.Proofs.YtefkbmhkhpekjaaMine
set_option linter.unusedVariables false
set_option linter.unusedSimpArgs false

/-! ### slices_Contains_int_int: function 120 -/
def slices_Contains_int_int.f (k : Nat) (l0 : List Int) (a1 : Int) : Option (Bool) := (slices_Index_int_int.f k l0 a1).bind fun t457 => (some (decide (t457 ≥ 0)))
theorem slices_Contains_int_int.mono : ∀ a0 a1 k, LeO (slices_Contains_int_int.f k a0 a1) (slices_Contains_int_int.f (k + 1) a0 a1) := by
  intro a0 a1 k
  unfold slices_Contains_int_int.f
  repeat' first
      | (with_reducible exact slices_Index_int_int.mono _ _ _)
      | (with_reducible exact LeO.refl _)
      | (with_reducible exact LeO.none _)
      | (with_reducible refine LeO.ite ?_ ?_)
      | (with_reducible refine LeO.bind ?_ (fun _ => ?_))
      | exact slices_Index_int_int.mono _ _ _
      | exact LeO.none _
      | refine LeO.ite ?_ ?_
      | refine LeO.bind ?_ (fun _ => ?_)
set_option maxHeartbeats 8000000 in
set_option maxRecDepth 100000 in
theorem slices_Contains_int_int.calls (k : Nat) (A0 : Option Addr) (c0 : Nat) (l0 : List Int) (a1 : Int) (r : Bool) (w : World) (hr0 : Kd.C (Kd.int .i64) w A0 l0.length l0) (hc0 : l0.length ≤ c0) (h : slices_Contains_int_int.f k l0 a1 = some r) :
  Calls Try.prog 120 #[.slice A0 l0.length c0, .int .i64 a1] w fun e w' => e = .returned (.bool r) ∧ Drawn0 w w' := by
 have HR0 := am_ hr0
 have HC0 := am_ hc0
 clear hr0 hc0
 have H : ((slices_Index_int_int.f k l0 a1).bind fun t457 => (some (decide (t457 ≥ 0)))) = some r := h
 clear h
 replace H := Option.bind_eq_some_iff.mp H
 obtain ⟨t457, A30, H⟩ := H
 replace H : (some (decide (t457 ≥ 0))) = some r := H
 have A3 := am_ A30
 clear A30
 obtain rfl := Option.some.inj H
 go_enter Try.func120, Try.ntmps120
 go_wp2_with (first | ((with_reducible refine gate_callee (f := 133) rfl ?_); refine goesL_ (some 7) rfl rfl Try.func133 (by kernel_rfl) rfl #[.slice A0 l0.length c0, .int .i64 a1] rfl (by (try simp only [List.map_toArray, List.map_cons, List.map_nil]); first | done | rfl | (simp only [List.length_drop, List.length_take]; rfl)) ?_; (with_reducible refine (slices_Index_int_int.calls k _ _ l0 a1 t457 _ ?side1 ?side2 A3.out).mono ?_); (case side1 => repeat (first | exact HR0.out | (with_reducible refine Kd.C_alloc ?_ _) | (with_reducible refine Kd.C_drewN ?_ _) | (with_reducible refine Kd.C_drew ?_))); (case side2 => exact HC0.out); rintro e w' ⟨rfl, ⟨nd, rfl⟩⟩; refine ⟨_, rfl, ?_⟩))
 go_ret
 exact ⟨by first | rfl | (simp; done) | (simp [*]; done), by repeat (first | exact Drawn0.refl _ | apply Drawn0.step)⟩

end Go.Proofs.Ytefkbmhkhpekjaa.PB

namespace Go.Proofs.Ytefkbmhkhpekjaa.PB
open Go.RowKit Go.Proofs.YtefkbmhkhpekjaaW.PrintWords Go.Proofs.YtefkbmhkhpekjaaW.PrintLast Go.Proofs.YtefkbmhkhpekjaaW.PrintMore
attribute [local go_sem] max2_int min2_int max_two min_two max_three min_three max_four min_four   -- for this text's walks alone
open Go.Proofs.YtefkbmhkhpekjaaMine
set_option linter.unusedVariables false
set_option linter.unusedSimpArgs false

theorem z97_1 {p : Prop} (h : p := by first | rfl | (simp; done) | (simp [*]; done)) : p := h
theorem z97_2 {p : Prop} (h : p := by repeat (first | exact Drawn0.refl _ | apply Drawn0.step)) : p := h
/-! ### impl_isRow: function 97 -/
def impl_isRow.l0 : Nat → List Int → Int → Int → Option (Bool)
  | 0, _, _, _ => none
  | k + 1, x0, x10, x11 => if x11 < x10 then ((slices_Contains_int_int.f k x0 x11).bind fun t1006 => (if t1006 = true then (impl_isRow.l0 k x0 x10 (wrap64 (x11 + 1))) else (some false))) else (some true)
def impl_isRow.f (k : Nat) (l0 : List Int) (a1 : Int) : Option (Bool) := if (l0.length : Int) = a1 then (impl_isRow.l0 k l0 a1 0) else (some false)
theorem impl_isRow.mono_l : ∀ k, (∀ y0 y1 y2, LeO (impl_isRow.l0 k y0 y1 y2) (impl_isRow.l0 (k + 1) y0 y1 y2))
  | 0 => fun _ _ _ r h => by simp [impl_isRow.l0] at h
  | k + 1 => by
    have ih0 := impl_isRow.mono_l k
    · intro y0 y1 y2
      unfold impl_isRow.l0
      repeat' first
      | (with_reducible exact ih0 _ _ _)
      | (with_reducible exact slices_Contains_int_int.mono _ _ _)
      | (with_reducible exact LeO.refl _)
      | (with_reducible exact LeO.none _)
      | (with_reducible refine LeO.ite ?_ ?_)
      | (with_reducible refine LeO.bind ?_ (fun _ => ?_))
      | exact ih0 _ _ _
      | exact slices_Contains_int_int.mono _ _ _
      | exact LeO.none _
      | refine LeO.ite ?_ ?_
      | refine LeO.bind ?_ (fun _ => ?_)
theorem impl_isRow.mono : ∀ a0 a1 k, LeO (impl_isRow.f k a0 a1) (impl_isRow.f (k + 1) a0 a1) := by
  intro a0 a1 k
  have ih0 := impl_isRow.mono_l k
  unfold impl_isRow.f
  repeat' first
      | (with_reducible exact ih0 _ _ _)
      | (with_reducible exact slices_Contains_int_int.mono _ _ _)
      | (with_reducible exact LeO.refl _)
      | (with_reducible exact LeO.none _)
      | (with_reducible refine LeO.ite ?_ ?_)
      | (with_reducible refine LeO.bind ?_ (fun _ => ?_))
      | exact ih0 _ _ _
      | exact slices_Contains_int_int.mono _ _ _
      | exact LeO.none _
      | refine LeO.ite ?_ ?_
      | refine LeO.bind ?_ (fun _ => ?_)
set_option maxHeartbeats 8000000 in
set_option maxRecDepth 100000 in
theorem impl_isRow.calls (k : Nat) (A0 : Option Addr) (c0 : Nat) (l0 : List Int) (a1 : Int) (r : Bool) (w : World) (hr0 : Kd.C (Kd.int .i64) w A0 l0.length l0) (hc0 : l0.length ≤ c0) (h : impl_isRow.f k l0 a1 = some r) :
  Calls Try.prog 97 #[.slice A0 l0.length c0, .int .i64 a1] w fun e w' => e = .returned (.bool r) ∧ Drawn0 w w' := by
 have HR0 := am_ hr0
 have HC0 := am_ hc0
 clear hr0 hc0
 have H : (if (l0.length : Int) = a1 then (impl_isRow.l0 k l0 a1 0) else (some false)) = some r := h
 clear h
 by_cases c3 : (l0.length : Int) = a1
 ·rw [if_pos c3] at H
  have c3b0 : ((l0.length : Int) == a1) = true := beq_iff_eq.mpr c3
  have c3b1 : ((l0.length : Int) != a1) = false := bne_eq_false_iff_eq.mpr c3
  clear c3
  have H' := am_ H
  clear H
  go_enter Try.func97, Try.ntmps97
  go_wp2
  go_loopg [11] k (fun kq v11 w' => ∃ (x11_1 : Int), v11 = .int .i64 x11_1 ∧ Aside0 (impl_isRow.l0 kq l0 a1 x11_1 = some r) ∧ Aside0 (kq ≤ k) ∧ Drawn0 w w')
  case atStart => exact ⟨(0), z97_1, H', ⟨Nat.le_refl _⟩, z97_2⟩
  case round =>
   clear H'
   obtain ⟨x11_1, rfl, HA, HK1, ⟨m1, rfl⟩⟩ := hrel
   cases gk with
   | zero => exact absurd HA.out (by simp [impl_isRow.l0])
   | succ k1 =>
    have H := HA.out
    clear HA
    simp only [impl_isRow.l0] at H
    by_cases c4 : x11_1 < a1
    ·rw [if_pos c4] at H
     have c4b0 : decide (x11_1 < a1) = true := decide_eq_true c4
     clear c4
     replace H := Option.bind_eq_some_iff.mp H
     obtain ⟨t1006, A50, H⟩ := H
     replace H : (if t1006 = true then (impl_isRow.l0 k1 l0 a1 (wrap64 (x11_1 + 1))) else (some false)) = some r := H
     have A5 := am_ A50
     clear A50
     by_cases c6 : t1006 = true
     ·subst c6
      have H1 : (impl_isRow.l0 k1 l0 a1 (wrap64 (x11_1 + 1))) = some r := by rw [if_pos rfl] at H; exact H
      clear H
      have H := H1
      clear H1
      have H' := am_ H
      clear H
      go_wp2_with (first | ((with_reducible refine gate_callee (f := 120) rfl ?_); refine goesL_ (some 16) rfl rfl Try.func120 (by kernel_rfl) rfl #[.slice A0 l0.length c0, .int .i64 x11_1] rfl (by (try simp only [List.map_toArray, List.map_cons, List.map_nil]); first | done | rfl | (simp only [List.length_drop, List.length_take]; rfl)) ?_; (with_reducible refine (slices_Contains_int_int.calls k1 _ _ l0 x11_1 true _ ?side1 ?side2 A5.out).mono ?_); (case side1 => repeat (first | exact HR0.out | (with_reducible refine Kd.C_alloc ?_ _) | (with_reducible refine Kd.C_drewN ?_ _) | (with_reducible refine Kd.C_drew ?_))); (case side2 => exact HC0.out); rintro e w' ⟨rfl, ⟨nd, rfl⟩⟩; refine ⟨_, rfl, ?_⟩))
      go_roundg k1
      case measure => have := HK1.out; omega
      case rel => exact ⟨(wrap64 (x11_1 + 1)), z97_1, H', ⟨by have := HK1.out; omega⟩, z97_2⟩
     ·replace c6 := Bool.eq_false_iff.mpr c6
      subst c6
      have H1 : (some false) = some r := by rw [if_neg (show ¬ (false = true) by decide)] at H; exact H
      clear H
      have H := H1
      clear H1
      obtain rfl := Option.some.inj H
      go_wp2_with (first | ((with_reducible refine gate_callee (f := 120) rfl ?_); refine goesL_ (some 16) rfl rfl Try.func120 (by kernel_rfl) rfl #[.slice A0 l0.length c0, .int .i64 x11_1] rfl (by (try simp only [List.map_toArray, List.map_cons, List.map_nil]); first | done | rfl | (simp only [List.length_drop, List.length_take]; rfl)) ?_; (with_reducible refine (slices_Contains_int_int.calls k1 _ _ l0 x11_1 false _ ?side1 ?side2 A5.out).mono ?_); (case side1 => repeat (first | exact HR0.out | (with_reducible refine Kd.C_alloc ?_ _) | (with_reducible refine Kd.C_drewN ?_ _) | (with_reducible refine Kd.C_drew ?_))); (case side2 => exact HC0.out); rintro e w' ⟨rfl, ⟨nd, rfl⟩⟩; refine ⟨_, rfl, ?_⟩))
      go_ret
      exact ⟨z97_1, z97_2⟩
    ·rw [if_neg c4] at H
     have c4b0 : decide (x11_1 < a1) = false := decide_eq_false c4
     clear c4
     obtain rfl := Option.some.inj H
     go_wp2
     go_ret
     exact ⟨z97_1, z97_2⟩
 ·rw [if_neg c3] at H
  have c3b0 : ((l0.length : Int) == a1) = false := beq_eq_false_iff_ne.mpr c3
  have c3b1 : ((l0.length : Int) != a1) = true := bne_iff_ne.mpr c3
  obtain rfl := Option.some.inj H
  go_enter Try.func97, Try.ntmps97
  go_wp2
  go_ret
  exact ⟨z97_1, z97_2⟩

end Go.Proofs.Ytefkbmhkhpekjaa.PB

namespace Go.Proofs.Ytefkbmhkhpekjaa.PB
open Go.RowKit Go.Proofs.YtefkbmhkhpekjaaW.PrintWords Go.Proofs.YtefkbmhkhpekjaaW.PrintLast Go.Proofs.YtefkbmhkhpekjaaW.PrintMore
attribute [local go_sem] max2_int min2_int max_two min_two max_three min_three max_four min_four   -- for this text's walks alone
open Go.Proofs.YtefkbmhkhpekjaaMine
set_option linter.unusedVariables false
set_option linter.unusedSimpArgs false

/-! ### impl_Do_98: function 98 -/
def impl_Do_98.f (l0 : List S85) : Option (List S85) := if l0.length < 1048577 then some l0 else none
set_option maxRecDepth 100000 in
set_option maxHeartbeats 800000 in
theorem impl_Do_98.calls (A0 : Option Addr) (c0 : Nat) (l0 : List S85) (r : List S85) (w : World) (hr0 : Kd.C k85 w A0 l0.length l0) (hc0 : l0.length ≤ c0) (h : impl_Do_98.f l0 = some r) :
  Calls Try.prog 98 #[.slice A0 l0.length c0] w fun e w' => ∃ v0_ : Value, e = .returned (v0_) ∧ Kd.R k85 85 w' w.heap.size (fun _ => True) v0_ r ∧ Below w.heap.size w w' := by
 unfold impl_Do_98.f at h
 split at h
 ·rename_i hl
  injection h with h; subst h
  have qT : ∀ (w : World) (a : Option Addr) (n c n' c' : Nat), (binOp .eql 82 (.slice a n c) (.slice none n' c')).run Try.prog w = .ok (.bool a.isNone) w := fun w a n c n' c' => Lib.run_eql_slice_nil w _ _ a n c n' c' Try.underlying82
  rcases A0 with _ | ad
  ·obtain rfl := nil_of_none hr0
   go_enter Try.func98, Try.ntmps98
   go_wp2_with fail
   go_ret
   exact ⟨_, rfl, Kd.R_nil _ _ _ _ _, Below.refl _ _⟩
  ·go_enter Try.func98, Try.ntmps98
   go_wp2_with (at_builtin; refine park ?_)
   refine ⟨?_⟩
   refine Kd.R_append_rows k85 (Rr := k85.K (w.alloc (Obj.cells #[] 85))) (w0 := w) w.heap.size (by rfl) (.tmp 5) (.tmp 6) 82 85 (.agg #[(.int .i64 0), (.int .i64 0), (.int .i64 0)]) 24 rfl Try.underlying82 info85 rfl (by decide) (by omega) (.slice (some ⟨w.heap.size, 0, none⟩) 0 0) [] l0 (some ad) l0.length c0 (fun _ => True) (fun _ => False) rfl rfl ?aO ?aR ?aK (fun _ h => h.elim) (fun _ _ => trivial) ?aB (by simp) ?aL ?_
   case aO => exact R_empty _ _ _ _ _ (Nat.le_refl _) trivial
   case aR => exact C_rows (Kd.C_below hr0 (below_alloc (Below.refl _ _) _))
   case aK => intro x cs hx; rw [k85_open hx]; exact k85_mkM _ _ _ _
   case aB => exact below_alloc (Below.refl _ _) _
   case aL => simp; omega
   intro v1 w1 ho1 hb1 _ _
   go_wp2_with fail
   go_ret
   exact ⟨_, rfl, by simpa using ho1, hb1⟩
 ·cases h


end Go.Proofs.Ytefkbmhkhpekjaa.PB

namespace Go.Proofs.Ytefkbmhkhpekjaa.PB
open Go.RowKit Go.Proofs.YtefkbmhkhpekjaaW.PrintWords Go.Proofs.YtefkbmhkhpekjaaW.PrintLast Go.Proofs.YtefkbmhkhpekjaaW.PrintMore
attribute [local go_sem] max2_int min2_int max_two min_two max_three min_three max_four min_four   -- for this text's walks alone
open Go.Proofs.YtefkbmhkhpekjaaMine
set_option linter.unusedVariables false
set_option linter.unusedSimpArgs false

theorem z47_1 {p : Prop} (h : p := by first | rfl | (simp; done) | (simp [*]; done)) : p := h
theorem z47_2 {p : Prop} (h : p := by first | (with_reducible assumption) | assumption) : p := h
theorem z47_3 {p : Prop} (h : p := by first | rfl | (simp [errW_none, errW_some] <;> rfl) | (simp [*, errW_none, errW_some] <;> rfl)) : p := h
theorem z47_4 {p : Prop} (h : p := by repeat (first | (with_reducible first | exact HB.out | apply below_alloc | apply pw_below_drewN | apply below_drew1) | exact HB.out)) : p := h
theorem z47_5 {p : Prop} (h : p := by first | exact Kd.S_nil _ _ _ _ _ | exact Kd.N_nil _ _ _ _ _ | exact Kd.V_nil _ _ _ _ _ | exact Kd.Q_nil _ _ _ _ _ | exact Kd.R_nil _ _ _ _ _) : p := h
theorem z47_6 {p : Prop} (h : p := by repeat (first | (with_reducible first | exact HB.out | apply below_alloc | apply pw_below_drewN | apply below_drew1 | refine below_set ?_ GE1007.out) | exact HB.out)) : p := h
theorem z47_7 {p : Prop} (h : p := by repeat (first | (with_reducible first | exact HB.out | apply below_alloc | apply pw_below_drewN | apply below_drew1 | refine below_set ?_ GE1007.out | refine below_set ?_ GE1008.out) | exact HB.out)) : p := h
theorem z47_8 {p : Prop} (h : p := by repeat (first | (with_reducible first | exact HB.out | apply below_alloc | apply pw_below_drewN | apply below_drew1 | refine below_set ?_ GE1007.out | refine below_set ?_ GE1008.out | refine below_set ?_ GE1011.out) | exact HB.out)) : p := h
theorem z47_9 {p : Prop} (h : p := by (with_reducible repeat (first | refine blk_drewN ?_ _ | refine blk_drew ?_ | refine blk_alloc ?_ _)); refine blk_put (cs := #[.slice none 0 0]) ?_ 0 _ rfl; (with_reducible repeat (first | refine blk_drewN ?_ _ | refine blk_drew ?_ | refine blk_alloc ?_ _)); exact BK1008.out) : p := h
/-! ### impl_TurnThreads: function 47 -/
mutual
def impl_TurnThreads.j0 : Nat → List Int → Bool → List (List (S85)) → Option ((List (List (S85))) × Bool)
  | 0, _, _, _ => none
  | k + 1, x1, x19, x1008000 => if x19 = true then (some (([] : List (List (S85))), false)) else (impl_TurnThreads.l0 k x1 (x1.length : Int) 0 x1008000 ([] : List (List (S85))))
def impl_TurnThreads.l0 : Nat → List Int → Int → Int → List (List (S85)) → List (List (S85)) → Option ((List (List (S85))) × Bool)
  | 0, _, _, _, _, _ => none
  | k + 1, x21, x22, x23, x1008000, x1012000 => if x23 < x22 then (if 0 ≤ x23 then (if x23 < (x21.length : Int) then (if 0 ≤ (rd x21 x23) then (if (rd x21 x23) < (x1008000.length : Int) then ((impl_Do_98.f (rd_L7 x1008000 (rd x21 x23))).bind fun t1014 => (if x1012000.length < 5864062014805 then (impl_TurnThreads.l0 k x21 x22 (wrap64 (x23 + 1)) x1008000 (x1012000 ++ [t1014])) else (none))) else (none)) else (none)) else (none)) else (none)) else (some (x1012000, true))
end
def impl_TurnThreads.f (k : Nat) (l0_0 : List (List (S85))) (l1 : List Int) : Option ((List (List (S85))) × Bool) := (impl_ProgOk.f k l0_0).bind fun t1009 => (if t1009 = true then ((impl_isRow.f k l1 (l0_0.length : Int)).bind fun t1010 => (impl_TurnThreads.j0 k l1 (!t1010) l0_0)) else (impl_TurnThreads.j0 k l1 true l0_0))
theorem impl_TurnThreads.mono_l : ∀ k, (∀ y0 y1 y2, LeO (impl_TurnThreads.j0 k y0 y1 y2) (impl_TurnThreads.j0 (k + 1) y0 y1 y2)) ∧ (∀ y0 y1 y2 y3 y4, LeO (impl_TurnThreads.l0 k y0 y1 y2 y3 y4) (impl_TurnThreads.l0 (k + 1) y0 y1 y2 y3 y4))
  | 0 => ⟨fun _ _ _ r h => by simp [impl_TurnThreads.j0] at h, fun _ _ _ _ _ r h => by simp [impl_TurnThreads.l0] at h⟩
  | k + 1 => by
    obtain ⟨ih0, ih1⟩ := impl_TurnThreads.mono_l k
    refine ⟨?_, ?_⟩
    · intro y0 y1 y2
      unfold impl_TurnThreads.j0
      repeat' first
      | (with_reducible exact ih0 _ _ _)
      | (with_reducible exact ih1 _ _ _ _ _)
      | (with_reducible exact impl_ProgOk.mono _ _)
      | (with_reducible exact impl_isRow.mono _ _ _)
      | (with_reducible exact LeO.refl _)
      | (with_reducible exact LeO.none _)
      | (with_reducible refine LeO.ite ?_ ?_)
      | (with_reducible refine LeO.bind ?_ (fun _ => ?_))
      | exact ih0 _ _ _
      | exact ih1 _ _ _ _ _
      | exact impl_ProgOk.mono _ _
      | exact impl_isRow.mono _ _ _
      | exact LeO.none _
      | refine LeO.ite ?_ ?_
      | refine LeO.bind ?_ (fun _ => ?_)
    · intro y0 y1 y2 y3 y4
      unfold impl_TurnThreads.l0
      repeat' first
      | (with_reducible exact ih0 _ _ _)
      | (with_reducible exact ih1 _ _ _ _ _)
      | (with_reducible exact impl_ProgOk.mono _ _)
      | (with_reducible exact impl_isRow.mono _ _ _)
      | (with_reducible exact LeO.refl _)
      | (with_reducible exact LeO.none _)
      | (with_reducible refine LeO.ite ?_ ?_)
      | (with_reducible refine LeO.bind ?_ (fun _ => ?_))
      | exact ih0 _ _ _
      | exact ih1 _ _ _ _ _
      | exact impl_ProgOk.mono _ _
      | exact impl_isRow.mono _ _ _
      | exact LeO.none _
      | refine LeO.ite ?_ ?_
      | refine LeO.bind ?_ (fun _ => ?_)
theorem impl_TurnThreads.mono : ∀ a0 a1 k, LeO (impl_TurnThreads.f k a0 a1) (impl_TurnThreads.f (k + 1) a0 a1) := by
  intro a0 a1 k
  obtain ⟨ih0, ih1⟩ := impl_TurnThreads.mono_l k
  unfold impl_TurnThreads.f
  repeat' first
      | (with_reducible exact ih0 _ _ _)
      | (with_reducible exact ih1 _ _ _ _ _)
      | (with_reducible exact impl_ProgOk.mono _ _)
      | (with_reducible exact impl_isRow.mono _ _ _)
      | (with_reducible exact LeO.refl _)
      | (with_reducible exact LeO.none _)
      | (with_reducible refine LeO.ite ?_ ?_)
      | (with_reducible refine LeO.bind ?_ (fun _ => ?_))
      | exact ih0 _ _ _
      | exact ih1 _ _ _ _ _
      | exact impl_ProgOk.mono _ _
      | exact impl_isRow.mono _ _ _
      | exact LeO.none _
      | refine LeO.ite ?_ ?_
      | refine LeO.bind ?_ (fun _ => ?_)
def impl_TurnThreads.T7 : Bool × List (List Nat × List Nat) := (true, [([], []), ([0], [0]), ([], []), ([2], [2]), ([], []), ([3, 4], [3, 4]), ([5], [5]), ([6], [6]), ([7], [7]), ([1, 8, 7], [1, 8]), ([0, 1, 2, 3, 4, 5, 6, 7, 8, 9], []), ([10, 9, 9, 0, 1, 2, 3, 4, 5, 6, 7, 8, 9], [9, 10])])
def impl_TurnThreads.B7 : List Nat := [0, 1, 0, 4, 0, 28, 60, 124, 252, 511, 1023, 2047]
theorem impl_TurnThreads.tab7 : rtab .any (opsOf Try.f47 7) = impl_TurnThreads.T7 := by kernel_rfl
theorem impl_TurnThreads.bits7 : waitsOk impl_TurnThreads.T7.2 impl_TurnThreads.B7 = true := by kernel_rfl
set_option maxHeartbeats 8000000 in
set_option maxRecDepth 100000 in
theorem impl_TurnThreads.calls (k : Nat) (A0_0 : Option Addr) (c0_0 : Nat) (l0_0 : List (List (S85))) (A1 : Option Addr) (c1 : Nat) (l1 : List Int) (r1 : List (List (S85))) (r2 : Bool) (w : World) (hr0_0 : Kd.C (Kd.slice 85 k85) w A0_0 l0_0.length l0_0) (hc0_0 : l0_0.length ≤ c0_0) (hr1 : Kd.C (Kd.int .i64) w A1 l1.length l1) (hc1 : l1.length ≤ c1) (h : impl_TurnThreads.f k l0_0 l1 = some (r1, r2)) :
  Calls Try.prog 47 #[.agg #[.slice A0_0 l0_0.length c0_0], .slice A1 l1.length c1] w fun e w' => ∃ v0_ : Value, e = .returned (.tuple #[.agg #[v0_], .bool r2]) ∧ Kd.S (Kd.slice 85 k85) 82 w' w.heap.size (fun _ => True) v0_ r1 ∧ Below w.heap.size w w' := by
 have hu35 := Try.underlying35
 have HR0_0 := am_ hr0_0
 have HC0_0 := am_ hc0_0
 clear hr0_0 hc0_0
 have HR1 := am_ hr1
 have HC1 := am_ hc1
 clear hr1 hc1
 have HB := am_ (Below.refl w.heap.size w)
 have H : ((impl_ProgOk.f k l0_0).bind fun t1009 => (if t1009 = true then ((impl_isRow.f k l1 (l0_0.length : Int)).bind fun t1010 => (impl_TurnThreads.j0 k l1 (!t1010) l0_0)) else (impl_TurnThreads.j0 k l1 true l0_0))) = some (r1, r2) := h
 clear h
 have HC3 := am_ H
 clear H
 go_enter Try.func47, Try.ntmps47
 go_upto_region 1 with (first | ((with_reducible refine gate_dst (N := 2) rfl ?_); (try (refine gate_guard (by rfl) ?_; dsimp only)); refine box_event ?hg (N := 2) ?hd (cs := #[.slice A0_0 l0_0.length c0_0]) (t := 35) ?hr ?_; (case hd => rfl); (case hg => rfl); (case hr => first | (go_simp; done) | (go_simp; rfl)); intro gb1007 hg w4 hbox hb; have n0_ := am_ (below_step z47_4 hb); have n1_ := am_ (hbox); have n2_ := am_ (by rw [hg]; exact (below_size z47_4) : w.heap.size ≤ gb1007); have n3_ := am_ (by rw [hg]; exact (below_size z47_4) : w.heap.size ≤ gb1007); clear HB; have HB := n0_; have BK1007 := n1_; have GW1007 := n2_; have GE1007 := n3_; clear n0_ n1_ n2_ n3_; clear hb hbox hg) | ((with_reducible refine gate_dst (N := 4) rfl ?_); (try (refine gate_guard (by rfl) ?_; dsimp only)); refine box_event ?hg (N := 4) ?hd (cs := #[.slice none 0 0]) (t := 35) ?hr ?_; (case hd => rfl); (case hg => rfl); (case hr => first | (go_simp; done) | (go_simp; rfl)); intro gb1008 hg w5 hbox hb; have n0_ := am_ (blk_below (bu BK1007.out) hb); have n1_ := am_ (below_step z47_6 hb); have n2_ := am_ (hbox); have n3_ := am_ (by rw [hg]; exact (below_size z47_6) : w.heap.size ≤ gb1008); have n4_ := am_ (by rw [hg]; exact (below_size z47_6) : w.heap.size ≤ gb1008); have n5_ := am_ (by rw [hg]; exact Nat.ne_of_lt (blk_lt (bu BK1007.out)) : gb1007 ≠ gb1008); have n6_ := am_ (by rw [hg]; exact Nat.ne_of_gt (blk_lt (bu BK1007.out)) : gb1008 ≠ gb1007); clear BK1007 HB; have BK1007 := n0_; have HB := n1_; have BK1008 := n2_; have GW1008 := n3_; have GE1008 := n4_; have NB1007_1008 := n5_; have NB1008_1007 := n6_; clear n0_ n1_ n2_ n3_ n4_ n5_ n6_; clear hb hbox hg))
 (try simp only [Act.put, List.setIfInBounds_toArray, List.set_cons_zero, List.set_cons_succ])
 go_cut [19] (fun v19 wc => ∃ (kq : Nat) (x19_2 : Bool), v19 = .bool x19_2 ∧ Aside0 (impl_TurnThreads.j0 kq l1 x19_2 l0_0 = some (r1, r2)) ∧ Aside0 (kq ≤ k) ∧ Aside0 (wc.heap[gb1007]? = some (.cells #[(.slice A0_0 l0_0.length c0_0)] 35 (0, 0))) ∧ Aside0 (wc.heap[gb1008]? = some (.cells #[(.slice none 0 0)] 35 (0, 0))) ∧ Aside0 (Below w.heap.size w wc))
 case first =>
  have H := HC3.out
  clear HC3
  replace H := Option.bind_eq_some_iff.mp H
  obtain ⟨t1009, A60, H⟩ := H
  replace H : (if t1009 = true then ((impl_isRow.f k l1 (l0_0.length : Int)).bind fun t1010 => (impl_TurnThreads.j0 k l1 (!t1010) l0_0)) else (impl_TurnThreads.j0 k l1 true l0_0)) = some (r1, r2) := H
  have A6 := am_ A60
  clear A60
  by_cases c7 : t1009 = true
  ·subst c7
   have H1 : ((impl_isRow.f k l1 (l0_0.length : Int)).bind fun t1010 => (impl_TurnThreads.j0 k l1 (!t1010) l0_0)) = some (r1, r2) := by rw [if_pos rfl] at H; exact H
   clear H
   have H := H1
   clear H1
   replace H := Option.bind_eq_some_iff.mp H
   obtain ⟨t1010, A80, H⟩ := H
   replace H : (impl_TurnThreads.j0 k l1 (!t1010) l0_0) = some (r1, r2) := H
   have A8 := am_ A80
   clear A80
   have H' := am_ H
   clear H
   have hnb9 := NB1007_1008.out
   have hnc9 := NB1008_1007.out
   have hcz10_0 : w5.cell? ⟨gb1007, 0, none⟩ = some (.slice A0_0 l0_0.length c0_0) := (blk_cell BK1007.out 0).trans rfl
   have hfz10_0 := blk_frozen BK1007.out 0
   go_wp2_with (first | ((with_reducible refine gate_callee (f := 31) rfl ?_); refine goesL_ (some 10) rfl rfl Try.func31 (by kernel_rfl) rfl #[.agg #[.slice A0_0 l0_0.length c0_0]] rfl (by (try simp only [List.map_toArray, List.map_cons, List.map_nil]); first | done | rfl | (simp only [List.length_drop, List.length_take]; rfl)) ?_; (with_reducible refine (impl_ProgOk.calls k _ _ l0_0 true _ ?side1 ?side2 A6.out).mono ?_); (case side1 => repeat (first | exact (Kd.C_below HR0_0.out HB.out) | (with_reducible refine Kd.C_alloc ?_ _) | (with_reducible refine Kd.C_drewN ?_ _) | (with_reducible refine Kd.C_drew ?_))); (case side2 => exact HC0_0.out); rintro e w11 ⟨rfl, hb⟩; refine ⟨_, rfl, ?_⟩; have n0_ := am_ (blk_below (bu BK1007.out) hb); have n1_ := am_ (blk_below (bu BK1008.out) hb); have n2_ := am_ (below_step z47_7 hb); clear BK1007 BK1008 HB; have BK1007 := n0_; have BK1008 := n1_; have HB := n2_; clear n0_ n1_ n2_; (try clear hb); (try clear hb2); (try clear hk); (try clear hi); have hcz12_0 : w11.cell? ⟨gb1007, 0, none⟩ = some (.slice A0_0 l0_0.length c0_0) := (blk_cell BK1007.out 0).trans rfl; have hfz12_0 := blk_frozen BK1007.out 0) | (go_at_call 97; (with_reducible refine (impl_isRow.calls k _ _ l1 (l0_0.length : Int) t1010 _ ?side1 ?side2 A8.out).mono ?_); (case side1 => repeat (first | exact (Kd.C_below HR1.out HB.out) | (with_reducible refine Kd.C_alloc ?_ _) | (with_reducible refine Kd.C_drewN ?_ _) | (with_reducible refine Kd.C_drew ?_))); (case side2 => exact HC1.out); rintro e w' ⟨rfl, ⟨nd, rfl⟩⟩))
   go_meet
   case rel => exact ⟨_, (!t1010), z47_1, H', ⟨by first | omega | exact Nat.le_refl _⟩, ⟨bu BK1007.out⟩, ⟨bu BK1008.out⟩, ⟨z47_7⟩⟩
  ·replace c7 := Bool.eq_false_iff.mpr c7
   subst c7
   have H1 : (impl_TurnThreads.j0 k l1 true l0_0) = some (r1, r2) := by rw [if_neg (show ¬ (false = true) by decide)] at H; exact H
   clear H
   have H := H1
   clear H1
   have H' := am_ H
   clear H
   have hnb13 := NB1007_1008.out
   have hnc13 := NB1008_1007.out
   have hcz14_0 : w5.cell? ⟨gb1007, 0, none⟩ = some (.slice A0_0 l0_0.length c0_0) := (blk_cell BK1007.out 0).trans rfl
   have hfz14_0 := blk_frozen BK1007.out 0
   go_wp2_with (first | ((with_reducible refine gate_callee (f := 31) rfl ?_); refine goesL_ (some 10) rfl rfl Try.func31 (by kernel_rfl) rfl #[.agg #[.slice A0_0 l0_0.length c0_0]] rfl (by (try simp only [List.map_toArray, List.map_cons, List.map_nil]); first | done | rfl | (simp only [List.length_drop, List.length_take]; rfl)) ?_; (with_reducible refine (impl_ProgOk.calls k _ _ l0_0 false _ ?side1 ?side2 A6.out).mono ?_); (case side1 => repeat (first | exact (Kd.C_below HR0_0.out HB.out) | (with_reducible refine Kd.C_alloc ?_ _) | (with_reducible refine Kd.C_drewN ?_ _) | (with_reducible refine Kd.C_drew ?_))); (case side2 => exact HC0_0.out); rintro e w15 ⟨rfl, hb⟩; refine ⟨_, rfl, ?_⟩; have n0_ := am_ (blk_below (bu BK1007.out) hb); have n1_ := am_ (blk_below (bu BK1008.out) hb); have n2_ := am_ (below_step z47_7 hb); clear BK1007 BK1008 HB; have BK1007 := n0_; have BK1008 := n1_; have HB := n2_; clear n0_ n1_ n2_; (try clear hb); (try clear hb2); (try clear hk); (try clear hi)))
   go_meet
   case rel => exact ⟨_, (true), z47_1, H', ⟨by first | omega | exact Nat.le_refl _⟩, ⟨bu BK1007.out⟩, ⟨bu BK1008.out⟩, ⟨z47_7⟩⟩
 case rest =>
  clear HC3
  obtain ⟨kq, x19_2, rfl, HA, HJ2, BK1007, BK1008, HB⟩ := hcut
  cases kq with
  | zero => exact absurd HA.out (by simp [impl_TurnThreads.j0])
  | succ kj2 =>
   have H := HA.out
   clear HA
   simp only [impl_TurnThreads.j0] at H
   by_cases c16 : x19_2 = true
   ·subst c16
    have H1 : (some (([] : List (List (S85))), false)) = some (r1, r2) := by rw [if_pos rfl] at H; exact H
    clear H
    have H := H1
    clear H1
    simp only [Option.some.injEq, Prod.mk.injEq] at H
    obtain ⟨rfl, rfl⟩ := H
    have hnb17 := NB1008_1007.out
    have hnc17 := NB1007_1008.out
    have hcz18_0 : wc.cell? ⟨gb1008, 0, none⟩ = some (.slice none 0 0) := (blk_cell BK1008.out 0).trans rfl
    have hfz18_0 := blk_frozen BK1008.out 0
    go_wp2
    refine bodyPost_ret (results_ct rfl _ _ gb1008 35 #[.slice none 0 0] (0, 0) _ rfl z47_9 Try.underlying35 rfl (by kernel_rfl)) rfl ?_
    exact ⟨_, z47_3, z47_5, z47_7⟩
   ·replace c16 := Bool.eq_false_iff.mpr c16
    subst c16
    have H1 : (impl_TurnThreads.l0 kj2 l1 (l1.length : Int) 0 l0_0 ([] : List (List (S85)))) = some (r1, r2) := by rw [if_neg (show ¬ (false = true) by decide)] at H; exact H
    clear H
    have H := H1
    clear H1
    have H' := am_ H
    clear H
    go_wp2_with (first | ((with_reducible refine gate_dst (N := 6) rfl ?_); (try (refine gate_guard (by rfl) ?_; dsimp only)); refine box_event ?hg (N := 6) ?hd (cs := #[.slice none 0 0]) (t := 35) ?hr ?_; (case hd => rfl); (case hg => rfl); (case hr => first | (go_simp; done) | (go_simp; rfl)); intro gb1011 hg w19 hbox hb; have n0_ := am_ (blk_below (bu BK1007.out) hb); have n1_ := am_ (blk_below (bu BK1008.out) hb); have n2_ := am_ (below_step z47_7 hb); have n3_ := am_ (hbox); have n4_ := am_ (by rw [hg]; exact (below_size z47_7) : w.heap.size ≤ gb1011); have n5_ := am_ (by rw [hg]; exact (below_size z47_7) : w.heap.size ≤ gb1011); have n6_ := am_ (by rw [hg]; exact Nat.ne_of_lt (blk_lt (bu BK1007.out)) : gb1007 ≠ gb1011); have n7_ := am_ (by rw [hg]; exact Nat.ne_of_gt (blk_lt (bu BK1007.out)) : gb1011 ≠ gb1007); have n8_ := am_ (by rw [hg]; exact Nat.ne_of_lt (blk_lt (bu BK1008.out)) : gb1008 ≠ gb1011); have n9_ := am_ (by rw [hg]; exact Nat.ne_of_gt (blk_lt (bu BK1008.out)) : gb1011 ≠ gb1008); clear BK1007 BK1008 HB; have BK1007 := n0_; have BK1008 := n1_; have HB := n2_; have BK1011 := n3_; have GW1011 := n4_; have GE1011 := n5_; have NB1007_1011 := n6_; have NB1011_1007 := n7_; have NB1008_1011 := n8_; have NB1011_1008 := n9_; clear n0_ n1_ n2_ n3_ n4_ n5_ n6_ n7_ n8_ n9_; clear hb hbox hg))
    go_loopg [23] kj2 (fun kq v23 w' => ∃ (x23_2 : Int) (x1012000_2 : List (List (S85))) (u1012000 : Value), v23 = .int .i64 x23_2 ∧ Aside0 (impl_TurnThreads.l0 kq l1 (l1.length : Int) x23_2 l0_0 x1012000_2 = some (r1, r2)) ∧ Aside0 (kq ≤ kj2) ∧ Aside0 (Kd.S (Kd.slice 85 k85) 82 w' w.heap.size (fun _ => True) u1012000 x1012000_2) ∧ Aside0 (w'.heap[gb1007]? = some (.cells #[(.slice A0_0 l0_0.length c0_0)] 35 (0, 0))) ∧ Aside0 (w'.heap[gb1008]? = some (.cells #[(.slice none 0 0)] 35 (0, 0))) ∧ Aside0 (w'.heap[gb1011]? = some (.cells #[u1012000] 35 (0, 0))) ∧ Aside0 (Below w.heap.size w w'))
    case atStart => exact ⟨(0), (([] : List (List (S85)))), (.slice none 0 0), z47_1, H', ⟨Nat.le_refl _⟩, ⟨z47_5⟩, ⟨bu BK1007.out⟩, ⟨bu BK1008.out⟩, ⟨bu BK1011.out⟩, ⟨z47_8⟩⟩
    case round =>
     clear H'
     obtain ⟨x23_2, x1012000_2, u1012000, rfl, HA, HK2, HO_1012000, BK1007, BK1008, BK1011, HB⟩ := hrel
     cases gk with
     | zero => exact absurd HA.out (by simp [impl_TurnThreads.l0])
     | succ k2 =>
      have H := HA.out
      clear HA
      simp only [impl_TurnThreads.l0] at H
      by_cases c20 : x23_2 < (l1.length : Int)
      ·rw [if_pos c20] at H
       have c20b0 : decide (x23_2 < (l1.length : Int)) = true := decide_eq_true c20
       clear c20
       by_cases c21 : 0 ≤ x23_2
       ·rw [if_pos c21] at H
        have c21b0 : decide (0 ≤ x23_2) = true := decide_eq_true c21
        clear c21
        by_cases c22 : x23_2 < (l1.length : Int)
        ·rw [if_pos c22] at H
         have c22b0 : decide (x23_2 < (l1.length : Int)) = true := decide_eq_true c22
         clear c22
         by_cases c23 : 0 ≤ (rd l1 x23_2)
         ·rw [if_pos c23] at H
          have c23b0 : decide (0 ≤ (rd l1 x23_2)) = true := decide_eq_true c23
          clear c23
          by_cases c24 : (rd l1 x23_2) < (l0_0.length : Int)
          ·rw [if_pos c24] at H
           have c24b0 : decide ((rd l1 x23_2) < (l0_0.length : Int)) = true := decide_eq_true c24
           clear c24
           replace H := Option.bind_eq_some_iff.mp H
           obtain ⟨t1014, A250, H⟩ := H
           replace H : (if x1012000_2.length < 5864062014805 then (impl_TurnThreads.l0 k2 l1 (l1.length : Int) (wrap64 (x23_2 + 1)) l0_0 (x1012000_2 ++ [t1014])) else (none)) = some (r1, r2) := H
           have A25 := am_ A250
           clear A250
           by_cases c26 : x1012000_2.length < 5864062014805
           ·rw [if_pos c26] at H
            have LMc26 := am_ c26
            clear c26
            obtain ⟨y1017, hy1017⟩ : ∃ y_ : List (List (S85)), y_ = (x1012000_2 ++ [t1014]) := ⟨_, rfl⟩
            replace H : (impl_TurnThreads.l0 k2 l1 (l1.length : Int) (wrap64 (x23_2 + 1)) l0_0 y1017) = some (r1, r2) := by first | (rw [hy1017]; with_reducible exact H) | (have H2_ := (Option.bind_some _ _).symm.trans H; rw [hy1017]; with_reducible exact H2_) | (have H2_ := (Option.bind_some _ _).symm.trans H; with_reducible exact H2_) | with_reducible exact H | (rw [hy1017]; exact H) | exact H
            have Ny1017 := am_ hy1017
            clear hy1017
            have H' := am_ H
            clear H
            have p1012 : 0 ≤ (x23_2 : Int) := of_decide_eq_true z47_2
            have q1012 : x23_2 < (l1.length : Int) := of_decide_eq_true z47_2
            obtain ⟨ad1012, e1012, hx1012_0⟩ := Kd.at_int HR1.out x23_2 p1012 q1012
            cases e1012
            replace hx1012_0 := (HB.out.cell (World.block_lt_of_cell? w _ hx1012_0)).trans hx1012_0
            replace p1012 := eq_true p1012
            replace q1012 := eq_true q1012
            try go_wp2
            have n0_ := am_ (Kd.S_drew HO_1012000.out)
            have n1_ := am_ (blk_drew BK1007.out)
            have n2_ := am_ (blk_drew BK1008.out)
            have n3_ := am_ (blk_drew BK1011.out)
            have n4_ := am_ (below_drew1 HB.out)
            clear HO_1012000 BK1007 BK1008 BK1011 HB
            have HO_1012000 := n0_
            have BK1007 := n1_
            have BK1008 := n2_
            have BK1011 := n3_
            have HB := n4_
            clear n0_ n1_ n2_ n3_ n4_
            have p1013 : 0 ≤ ((rd l1 x23_2) : Int) := of_decide_eq_true z47_2
            have q1013 : (rd l1 x23_2) < (l0_0.length : Int) := of_decide_eq_true z47_2
            obtain ⟨ad1013, A1013_0, c1013_0, e1013, hx1013_0, hl1013_0, hi1013_0⟩ := at_L7 HR0_0.out (rd l1 x23_2) p1013 q1013
            have hw1013_0 := hx1013_0
            cases e1013
            replace hx1013_0 := (HB.out.cell (World.block_lt_of_cell? w _ hx1013_0)).trans hx1013_0
            have HR1013_0 := am_ hi1013_0
            have HC1013_0 := am_ hl1013_0
            clear hi1013_0 hl1013_0
            replace p1013 := eq_true p1013
            replace q1013 := eq_true q1013
            refine start_ (n := 12) (S := fun w' => w'.cell? ⟨gb1011, 0, none⟩ = some (u1012000) ∧ w'.cell? ⟨gb1007, 0, none⟩ = some (.slice (some ad1013) l0_0.length c0_0) ∧ w'.cell? (ad1013.add ((rd l1 x23_2)).toNat) = some (.slice A1013_0 (rd_L7 l0_0 (rd l1 x23_2)).length c1013_0)) (ds := [11]) #[false, false, false, false, false, false, false, false, false, false, false, false] (by kernel_rfl) rfl rfl ⟨(blk_cell BK1011.out 0).trans rfl, (blk_cell BK1007.out 0).trans rfl, ((HB.out.cell (World.block_lt_of_cell? w _ hw1013_0)).trans hw1013_0)⟩ (fun hHeld => ?_); refine with_tabW impl_TurnThreads.tab7 impl_TurnThreads.bits7 (fun HT_ HW_ => ?_)
            generalize wr.drew = w27 at HO_1012000 BK1007 BK1008 BK1011 HB HR1013_0 hx1013_0 hHeld ⊢
            refine pure_ (i := 0) (N := some 27) (v := ?_) (a' := ?_) #[true, false, false, false, false, false, false, false, false, false, false, false] rfl rfl (any_of HT_.out (by kernel_rfl)) (fun _ _ _ h => h) (Or.inl ⟨by rfl, ?_⟩) ?_ ?_
            rotate_left
            ·intro w'
             go_simp
             with_reducible rfl
            rotate_left
            ·simp only [Act.put, List.setIfInBounds_toArray, List.set_cons_zero, List.set_cons_succ, i64_w, i32_w]
             rfl
            refine pure_ (i := 2) (N := some 29) (v := ?_) (a' := ?_) #[true, false, true, false, false, false, false, false, false, false, false, false] rfl rfl (any_of HT_.out (by kernel_rfl)) (fun _ _ _ h => h) (Or.inl ⟨by rfl, ?_⟩) ?_ ?_
            rotate_left
            ·intro w'
             go_simp
             with_reducible rfl
            rotate_left
            ·simp only [Act.put, List.setIfInBounds_toArray, List.set_cons_zero, List.set_cons_succ, i64_w, i32_w]
             rfl
            refine pure_ (i := 4) (N := some 31) (v := ?_) (a' := ?_) #[true, false, true, false, true, false, false, false, false, false, false, false] rfl rfl (any_of HT_.out (by kernel_rfl)) (fun _ _ _ h => h) (Or.inl ⟨by rfl, ?_⟩) ?_ ?_
            rotate_left
            ·intro w'
             go_simp
             with_reducible rfl
            rotate_left
            ·simp only [Act.put, List.setIfInBounds_toArray, List.set_cons_zero, List.set_cons_succ, i64_w, i32_w]
             rfl
            refine take_ (i := 1) (N := some 28) (v := ?_) (a' := ?_) #[true, true, true, false, true, false, false, false, false, false, false, false] rfl rfl (take_ofW HT_.out HW_.out (by kernel_rfl)) (fun _ _ _ h => h) (Or.inl ⟨by rfl, ?_⟩) hHeld ?_ ?_
            rotate_left
            ·rintro w' ⟨s0, s1, s2⟩
             go_simp
             with_reducible rfl
            rotate_left
            ·simp only [Act.put, List.setIfInBounds_toArray, List.set_cons_zero, List.set_cons_succ, i64_w, i32_w]
             rfl
            refine take_ (i := 3) (N := some 30) (v := ?_) (a' := ?_) #[true, true, true, true, true, false, false, false, false, false, false, false] rfl rfl (take_ofW HT_.out HW_.out (by kernel_rfl)) (fun _ _ _ h => h) (Or.inl ⟨by rfl, ?_⟩) hHeld ?_ ?_
            rotate_left
            ·rintro w' ⟨s0, s1, s2⟩
             go_simp
             with_reducible rfl
            rotate_left
            ·simp only [Act.put, List.setIfInBounds_toArray, List.set_cons_zero, List.set_cons_succ, i64_w, i32_w]
             rfl
            refine pure_ (i := 5) (N := some 32) (v := ?_) (a' := ?_) #[true, true, true, true, true, true, false, false, false, false, false, false] rfl rfl (any_of HT_.out (by kernel_rfl)) (fun _ _ _ h => h) (Or.inl ⟨by rfl, ?_⟩) ?_ ?_
            rotate_left
            ·intro w'
             go_simp
             with_reducible rfl
            rotate_left
            ·simp only [Act.put, List.setIfInBounds_toArray, List.set_cons_zero, List.set_cons_succ, i64_w, i32_w]
             rfl
            refine take_ (i := 6) (N := some 33) (v := ?_) (a' := ?_) #[true, true, true, true, true, true, true, false, false, false, false, false] rfl rfl (take_ofW HT_.out HW_.out (by kernel_rfl)) (fun _ _ _ h => h) (Or.inl ⟨by rfl, ?_⟩) hHeld ?_ ?_
            rotate_left
            ·rintro w' ⟨s0, s1, s2⟩
             go_simp
             with_reducible rfl
            rotate_left
            ·simp only [Act.put, List.setIfInBounds_toArray, List.set_cons_zero, List.set_cons_succ, i64_w, i32_w]
             rfl
            refine one_ (i := 7) (N := some 34) #[true, true, true, true, true, true, true, true, false, false, false, false] rfl rfl (one_of HT_.out (by kernel_rfl)) (by decide) (fun K hK => ?_)
            refine goes_ Try.func98 (by kernel_rfl) rfl #[.slice A1013_0 (rd_L7 l0_0 (rd l1 x23_2)).length c1013_0] (by rfl) rfl rfl (by (try simp only [List.map_toArray, List.map_cons, List.map_nil]); first | done | rfl | (simp only [List.length_drop, List.length_take]; rfl)) ?_
            with_reducible refine (impl_Do_98.calls _ _ (rd_L7 l0_0 (rd l1 x23_2)) t1014 _ ?side1 ?side2 A25.out).mono ?_
            (case side1 => repeat (first | exact (Kd.C_below HR1013_0.out HB.out) | (with_reducible refine Kd.C_alloc ?_ _) | (with_reducible refine Kd.C_drewN ?_ _) | (with_reducible refine Kd.C_drew ?_)))
            (case side2 => exact HC1013_0.out)
            rintro e w28 ⟨v1015, rfl, ho0, hb⟩
            refine ⟨_, rfl, ?_⟩
            have n0_ := am_ (Kd.S_elder' (su HO_1012000.out) (Kd.R_base ho0) hb)
            have n1_ := am_ (Kd.R_lower ho0 (below_size z47_8))
            have n2_ := am_ (blk_below (bu BK1007.out) hb)
            have n3_ := am_ (blk_below (bu BK1008.out) hb)
            have n4_ := am_ (blk_below (bu BK1011.out) hb)
            have n5_ := am_ (below_step z47_8 hb)
            clear HO_1012000 BK1007 BK1008 BK1011 HB
            have HO_1012000 := n0_
            have HO1016 := n1_
            have BK1007 := n2_
            have BK1008 := n3_
            have BK1011 := n4_
            have HB := n5_
            clear n0_ n1_ n2_ n3_ n4_ n5_
            (try clear hb)
            (try clear hb2)
            (try clear hk)
            (try clear hi)
            (try clear ho0)
            obtain ⟨Ao30, co30, eo30⟩ := Kd.R_slice HO1016.out
            (first | subst eo30 | (injection eo30 with f1_ f2_ f3_; have f4_ := f1_.symm; have f5_ := f3_.symm; clear f1_ f2_ f3_; subst f4_; subst f5_))
            refine hK.out _ _ ⟨(blk_cell BK1011.out 0).trans rfl, (blk_cell BK1007.out 0).trans rfl, ((HB.out.cell (World.block_lt_of_cell? w _ hw1013_0)).trans hw1013_0)⟩ (fun hHeld => ?_)
            clear hK K
            refine norm_ (a' := ?_) ?_ ?_
            rotate_left
            ·show Act.put _ (some 34) _ = _
             simp only [Act.put, List.setIfInBounds_toArray, List.set_cons_zero, List.set_cons_succ, i64_w, i32_w]
             rfl
            refine one_ (i := 8) (N := some 35) #[true, true, true, true, true, true, true, true, true, false, false, false] rfl rfl (one_of HT_.out (by kernel_rfl)) (by decide) (fun K hK => ?_)
            refine value_ (w1 := ?_) (v := ?_) (by rfl) rfl ?_ ?_
            rotate_left 2
            ·go_simp
             constructor
             ·rfl
             ·rfl
            refine hK.out _ _ ⟨(blk_cell (blk_alloc BK1011.out _) 0).trans rfl, (blk_cell (blk_alloc BK1007.out _) 0).trans rfl, (World.cell?_alloc_lt _ _ _ (World.block_lt_of_cell? _ _ (((HB.out.cell (World.block_lt_of_cell? w _ hw1013_0)).trans hw1013_0)))).trans (((HB.out.cell (World.block_lt_of_cell? w _ hw1013_0)).trans hw1013_0))⟩ (fun hHeld => ?_)
            clear hK K
            refine norm_ (a' := ?_) ?_ ?_
            rotate_left
            ·show Act.put _ (some 35) _ = _
             simp only [Act.put, List.setIfInBounds_toArray, List.set_cons_zero, List.set_cons_succ, i64_w, i32_w]
             rfl
            refine one_ (i := 9) (N := some 36) #[true, true, true, true, true, true, true, true, true, true, false, false] rfl rfl (one_of HT_.out (by kernel_rfl)) (by decide) (fun K hK => ?_)
            refine Kd.S_append_step (Kd.slice 85 k85) (w0 := w) w.heap.size (by rfl) (.tmp 28) (.tmp 35) 33 82 (.slice none 0 0) 24 rfl Try.underlying33 info82 rfl (by decide) (by omega) u1012000 x1012000_2 t1014 [.slice Ao30 t1014.length co30] (fun _ => True) (fun k_ => some k_ = (.slice Ao30 t1014.length co30 : Value).ownBlock) rfl rfl ?aP (fun k_ hk_ => ((Kd.R_mono (ok' := fun k_ => ((fun _ => True)) k_ ∧ some k_ ≠ (u1012000 : Value).ownBlock) (Kd.R_apart' (HO1016.out) (Kd.S_typed HO_1012000.out) (by decide)) (fun k_ hk => ⟨trivial, hk.2⟩))).1 k_ hk_.symm) ?aF ?aO ?aB ?aS ?aL ?_
            (case aP => exact Kd.M_row (Kd.R_mono (Kd.R_tight rfl (Kd.R_mono (ok' := fun k_ => ((fun _ => True)) k_ ∧ some k_ ≠ (u1012000 : Value).ownBlock) (Kd.R_apart' (HO1016.out) (Kd.S_typed HO_1012000.out) (by decide)) (fun k_ hk => ⟨trivial, hk.2⟩))) (fun _ h_ => h_)))
            (case aB => exact z47_8)
            (case aF => exact (fun _ _ => trivial))
            (case aO => exact (su (Kd.S_mono HO_1012000.out (fun k_ hk => ⟨trivial, fun e_ => hk.2 e_⟩))))
            (case aS => exact (below_size z47_8))
            (case aL => have := LMc26.out; omega)
            intro v1018 w29 ho hb hg hat
            rw [← Ny1017.out] at ho
            have n0_ := am_ (blk_grown (bu BK1007.out) hg (Kd.S_ne HO_1012000.out BK1007.out (by decide)))
            have n1_ := am_ (blk_grown (bu BK1008.out) hg (Kd.S_ne HO_1012000.out BK1008.out (by decide)))
            have n2_ := am_ (blk_grown (bu BK1011.out) hg (Kd.S_ne HO_1012000.out BK1011.out (by decide)))
            have n3_ := am_ (hb)
            have n4_ := am_ (ho)
            clear BK1007 BK1008 BK1011 HB HO_1012000 HO1016
            have BK1007 := n0_
            have BK1008 := n1_
            have BK1011 := n2_
            have HB := n3_
            have HO1019 := n4_
            clear n0_ n1_ n2_ n3_ n4_ ho hb hg hat
            obtain ⟨Ao31, co31, eo31⟩ := Kd.S_slice HO1019.out
            (first | subst eo31 | (injection eo31 with f1_ f2_ f3_; have f4_ := f1_.symm; have f5_ := f3_.symm; clear f1_ f2_ f3_; subst f4_; subst f5_))
            refine hK.out _ _ ⟨(blk_cell BK1011.out 0).trans rfl, (blk_cell BK1007.out 0).trans rfl, ((HB.out.cell (World.block_lt_of_cell? w _ hw1013_0)).trans hw1013_0)⟩ (fun hHeld => ?_)
            clear hK K
            refine norm_ (a' := ?_) ?_ ?_
            rotate_left
            ·show Act.put _ (some 36) _ = _
             simp only [Act.put, List.setIfInBounds_toArray, List.set_cons_zero, List.set_cons_succ, i64_w, i32_w]
             rfl
            refine pure_ (i := 10) (N := some 37) (v := ?_) (a' := ?_) #[true, true, true, true, true, true, true, true, true, true, true, false] rfl rfl (any_of HT_.out (by kernel_rfl)) (fun _ _ _ h => h) (Or.inl ⟨by rfl, ?_⟩) ?_ ?_
            rotate_left
            ·intro w'
             go_simp
             with_reducible rfl
            rotate_left
            ·simp only [Act.put, List.setIfInBounds_toArray, List.set_cons_zero, List.set_cons_succ, i64_w, i32_w]
             rfl
            refine last_ (i := 11) (N := none) #[true, true, true, true, true, true, true, true, true, true, true, true] rfl rfl (one_of HT_.out (by kernel_rfl)) (by decide) (fun K hK => ?_)
            have hs32 : w29.cell? ⟨gb1011, 0, none⟩ = some (u1012000) := (blk_cell BK1011.out 0).trans rfl
            have hfs32 := blk_frozen BK1011.out 0
            have hns32_0 := NB1007_1011.out
            have hns32_1 := NB1008_1011.out
            have hms32_0 := NB1011_1007.out
            have hms32_1 := NB1011_1008.out
            refine skip_ (w1 := ?_) (by rfl) rfl ?_ ?_
            rotate_left
            ·go_simp
             rfl
            refine hK.out _ _ ?_
            clear hK K
            refine done_ (done_of HT_.out (by kernel_rfl)) ?_
            try go_wp2
            go_roundg k2
            case measure => have := HJ2.out; have := HK2.out; omega
            case rel => exact ⟨(wrap64 (x23_2 + 1)), (y1017), (.slice Ao31 y1017.length co31), z47_1, H', ⟨by have := HJ2.out; have := HK2.out; omega⟩, ⟨su (Kd.S_mono (Kd.S_far (p := ⟨gb1011, 0, none⟩) (Kd.S_types HO1019.out BK1011.out (by decide)) (fun _ hk => hk.2) (.slice Ao31 y1017.length co31)) (fun _ hk => trivial))⟩, ⟨by (with_reducible repeat (first | refine blk_drewN ?_ _ | refine blk_drew ?_ | refine blk_alloc ?_ _)); refine blk_far ?_ NB1007_1011.out _; (with_reducible repeat (first | refine blk_drewN ?_ _ | refine blk_drew ?_ | refine blk_alloc ?_ _)); exact BK1007.out⟩, ⟨by (with_reducible repeat (first | refine blk_drewN ?_ _ | refine blk_drew ?_ | refine blk_alloc ?_ _)); refine blk_far ?_ NB1008_1011.out _; (with_reducible repeat (first | refine blk_drewN ?_ _ | refine blk_drew ?_ | refine blk_alloc ?_ _)); exact BK1008.out⟩, ⟨by (with_reducible repeat (first | refine blk_drewN ?_ _ | refine blk_drew ?_ | refine blk_alloc ?_ _)); refine blk_put (cs := #[u1012000]) ?_ 0 _ rfl; (with_reducible repeat (first | refine blk_drewN ?_ _ | refine blk_drew ?_ | refine blk_alloc ?_ _)); exact BK1011.out⟩, ⟨z47_8⟩⟩
           ·rw [if_neg c26] at H
            exact absurd H (by simp)
          ·rw [if_neg c24] at H
           exact absurd H (by simp)
         ·rw [if_neg c23] at H
          exact absurd H (by simp)
        ·rw [if_neg c22] at H
         exact absurd H (by simp)
       ·rw [if_neg c21] at H
        exact absurd H (by simp)
      ·rw [if_neg c20] at H
       have c20b0 : decide (x23_2 < (l1.length : Int)) = false := decide_eq_false c20
       clear c20
       simp only [Option.some.injEq, Prod.mk.injEq] at H
       obtain ⟨rfl, rfl⟩ := H
       have hnb33 := NB1011_1007.out
       have hnc33 := NB1007_1011.out
       have hnb34 := NB1011_1008.out
       have hnc34 := NB1008_1011.out
       have hcz35_0 : wr.cell? ⟨gb1011, 0, none⟩ = some (u1012000) := (blk_cell BK1011.out 0).trans rfl
       have hfz35_0 := blk_frozen BK1011.out 0
       obtain ⟨Ao36, co36, eo36⟩ := Kd.S_slice HO_1012000.out
       subst eo36
       have hnb37 := NB1008_1007.out
       have hnc37 := NB1007_1008.out
       have hcz38_0 : wr.cell? ⟨gb1008, 0, none⟩ = some (.slice none 0 0) := (blk_cell BK1008.out 0).trans rfl
       have hfz38_0 := blk_frozen BK1008.out 0
       go_wp2
       refine bodyPost_ret (results_ct rfl _ _ gb1008 35 #[.slice Ao36 x1012000_2.length co36] (0, 0) _ rfl z47_9 Try.underlying35 rfl (by kernel_rfl)) rfl ?_
       exact ⟨_, z47_3, su (Kd.S_mono (Kd.S_far (p := ⟨gb1008, 0, none⟩) (Kd.S_types HO_1012000.out BK1008.out (by decide)) (fun _ hk => hk.2) (.slice Ao36 x1012000_2.length co36)) (fun _ hk => trivial)), z47_8⟩

end Go.Proofs.Ytefkbmhkhpekjaa.PB

namespace Go.Proofs.Ytefkbmhkhpekjaa.PB
open Go.RowKit Go.Proofs.YtefkbmhkhpekjaaW.PrintWords Go.Proofs.YtefkbmhkhpekjaaW.PrintLast Go.Proofs.YtefkbmhkhpekjaaW.PrintMore
attribute [local go_sem] max2_int min2_int max_two min_two max_three min_three max_four min_four   -- for this text's walks alone
open Go.Proofs.YtefkbmhkhpekjaaMine
set_option linter.unusedVariables false
set_option linter.unusedSimpArgs false

theorem z100_1 {p : Prop} (h : p := by first | rfl | (simp; done) | (simp [*]; done)) : p := h
theorem z100_2 {p : Prop} (h : p := by repeat (first | exact Drawn0.refl _ | apply Drawn0.step)) : p := h
/-! ### spec_l22Row: function 100 -/
def spec_l22Row.l0 : Nat → List Int → Int → Int → Option (Bool)
  | 0, _, _, _ => none
  | k + 1, x0, x1, x5 => if x5 < x1 then ((spec_l12Has.f k x0 x5).bind fun t1021 => (if t1021 = true then (spec_l22Row.l0 k x0 x1 (wrap64 (x5 + 1))) else (some false))) else (some true)
def spec_l22Row.f (k : Nat) (l0 : List Int) (a1 : Int) : Option (Bool) := if (l0.length : Int) = a1 then (spec_l22Row.l0 k l0 a1 0) else (some false)
theorem spec_l22Row.mono_l : ∀ k, (∀ y0 y1 y2, LeO (spec_l22Row.l0 k y0 y1 y2) (spec_l22Row.l0 (k + 1) y0 y1 y2))
  | 0 => fun _ _ _ r h => by simp [spec_l22Row.l0] at h
  | k + 1 => by
    have ih0 := spec_l22Row.mono_l k
    · intro y0 y1 y2
      unfold spec_l22Row.l0
      repeat' first
      | (with_reducible exact ih0 _ _ _)
      | (with_reducible exact spec_l12Has.mono _ _ _)
      | (with_reducible exact LeO.refl _)
      | (with_reducible exact LeO.none _)
      | (with_reducible refine LeO.ite ?_ ?_)
      | (with_reducible refine LeO.bind ?_ (fun _ => ?_))
      | exact ih0 _ _ _
      | exact spec_l12Has.mono _ _ _
      | exact LeO.none _
      | refine LeO.ite ?_ ?_
      | refine LeO.bind ?_ (fun _ => ?_)
theorem spec_l22Row.mono : ∀ a0 a1 k, LeO (spec_l22Row.f k a0 a1) (spec_l22Row.f (k + 1) a0 a1) := by
  intro a0 a1 k
  have ih0 := spec_l22Row.mono_l k
  unfold spec_l22Row.f
  repeat' first
      | (with_reducible exact ih0 _ _ _)
      | (with_reducible exact spec_l12Has.mono _ _ _)
      | (with_reducible exact LeO.refl _)
      | (with_reducible exact LeO.none _)
      | (with_reducible refine LeO.ite ?_ ?_)
      | (with_reducible refine LeO.bind ?_ (fun _ => ?_))
      | exact ih0 _ _ _
      | exact spec_l12Has.mono _ _ _
      | exact LeO.none _
      | refine LeO.ite ?_ ?_
      | refine LeO.bind ?_ (fun _ => ?_)
set_option maxHeartbeats 8000000 in
set_option maxRecDepth 100000 in
theorem spec_l22Row.calls (k : Nat) (A0 : Option Addr) (c0 : Nat) (l0 : List Int) (a1 : Int) (r : Bool) (w : World) (hr0 : Kd.C (Kd.int .i64) w A0 l0.length l0) (hc0 : l0.length ≤ c0) (h : spec_l22Row.f k l0 a1 = some r) :
  Calls Try.prog 100 #[.slice A0 l0.length c0, .int .i64 a1] w fun e w' => e = .returned (.bool r) ∧ Drawn0 w w' := by
 have HR0 := am_ hr0
 have HC0 := am_ hc0
 clear hr0 hc0
 have H : (if (l0.length : Int) = a1 then (spec_l22Row.l0 k l0 a1 0) else (some false)) = some r := h
 clear h
 by_cases c3 : (l0.length : Int) = a1
 ·rw [if_pos c3] at H
  have c3b0 : ((l0.length : Int) == a1) = true := beq_iff_eq.mpr c3
  have c3b1 : ((l0.length : Int) != a1) = false := bne_eq_false_iff_eq.mpr c3
  clear c3
  have H' := am_ H
  clear H
  go_enter Try.func100, Try.ntmps100
  go_wp2
  go_loopg [5] k (fun kq v5 w' => ∃ (x5_1 : Int), v5 = .int .i64 x5_1 ∧ Aside0 (spec_l22Row.l0 kq l0 a1 x5_1 = some r) ∧ Aside0 (kq ≤ k) ∧ Drawn0 w w')
  case atStart => exact ⟨(0), z100_1, H', ⟨Nat.le_refl _⟩, z100_2⟩
  case round =>
   clear H'
   obtain ⟨x5_1, rfl, HA, HK1, ⟨m1, rfl⟩⟩ := hrel
   cases gk with
   | zero => exact absurd HA.out (by simp [spec_l22Row.l0])
   | succ k1 =>
    have H := HA.out
    clear HA
    simp only [spec_l22Row.l0] at H
    by_cases c4 : x5_1 < a1
    ·rw [if_pos c4] at H
     have c4b0 : decide (x5_1 < a1) = true := decide_eq_true c4
     clear c4
     replace H := Option.bind_eq_some_iff.mp H
     obtain ⟨t1021, A50, H⟩ := H
     replace H : (if t1021 = true then (spec_l22Row.l0 k1 l0 a1 (wrap64 (x5_1 + 1))) else (some false)) = some r := H
     have A5 := am_ A50
     clear A50
     by_cases c6 : t1021 = true
     ·subst c6
      have H1 : (spec_l22Row.l0 k1 l0 a1 (wrap64 (x5_1 + 1))) = some r := by rw [if_pos rfl] at H; exact H
      clear H
      have H := H1
      clear H1
      have H' := am_ H
      clear H
      go_wp2_with (first | ((with_reducible refine gate_callee (f := 101) rfl ?_); refine goesL_ (some 17) rfl rfl Try.func101 (by kernel_rfl) rfl #[.slice A0 l0.length c0, .int .i64 x5_1] rfl (by (try simp only [List.map_toArray, List.map_cons, List.map_nil]); first | done | rfl | (simp only [List.length_drop, List.length_take]; rfl)) ?_; (with_reducible refine (spec_l12Has.calls k1 _ _ l0 x5_1 true _ ?side1 ?side2 A5.out).mono ?_); (case side1 => repeat (first | exact HR0.out | (with_reducible refine Kd.C_alloc ?_ _) | (with_reducible refine Kd.C_drewN ?_ _) | (with_reducible refine Kd.C_drew ?_))); (case side2 => exact HC0.out); rintro e w' ⟨rfl, ⟨nd, rfl⟩⟩; refine ⟨_, rfl, ?_⟩))
      go_roundg k1
      case measure => have := HK1.out; omega
      case rel => exact ⟨(wrap64 (x5_1 + 1)), z100_1, H', ⟨by have := HK1.out; omega⟩, z100_2⟩
     ·replace c6 := Bool.eq_false_iff.mpr c6
      subst c6
      have H1 : (some false) = some r := by rw [if_neg (show ¬ (false = true) by decide)] at H; exact H
      clear H
      have H := H1
      clear H1
      obtain rfl := Option.some.inj H
      go_wp2_with (first | ((with_reducible refine gate_callee (f := 101) rfl ?_); refine goesL_ (some 17) rfl rfl Try.func101 (by kernel_rfl) rfl #[.slice A0 l0.length c0, .int .i64 x5_1] rfl (by (try simp only [List.map_toArray, List.map_cons, List.map_nil]); first | done | rfl | (simp only [List.length_drop, List.length_take]; rfl)) ?_; (with_reducible refine (spec_l12Has.calls k1 _ _ l0 x5_1 false _ ?side1 ?side2 A5.out).mono ?_); (case side1 => repeat (first | exact HR0.out | (with_reducible refine Kd.C_alloc ?_ _) | (with_reducible refine Kd.C_drewN ?_ _) | (with_reducible refine Kd.C_drew ?_))); (case side2 => exact HC0.out); rintro e w' ⟨rfl, ⟨nd, rfl⟩⟩; refine ⟨_, rfl, ?_⟩))
      go_ret
      exact ⟨z100_1, z100_2⟩
    ·rw [if_neg c4] at H
     have c4b0 : decide (x5_1 < a1) = false := decide_eq_false c4
     clear c4
     obtain rfl := Option.some.inj H
     go_wp2
     go_ret
     exact ⟨z100_1, z100_2⟩
 ·rw [if_neg c3] at H
  have c3b0 : ((l0.length : Int) == a1) = false := beq_eq_false_iff_ne.mpr c3
  have c3b1 : ((l0.length : Int) != a1) = true := bne_iff_ne.mpr c3
  obtain rfl := Option.some.inj H
  go_enter Try.func100, Try.ntmps100
  go_wp2
  go_ret
  exact ⟨z100_1, z100_2⟩

end Go.Proofs.Ytefkbmhkhpekjaa.PB

namespace Go.Proofs.Ytefkbmhkhpekjaa.PB
open Go.RowKit Go.Proofs.YtefkbmhkhpekjaaW.PrintWords Go.Proofs.YtefkbmhkhpekjaaW.PrintLast Go.Proofs.YtefkbmhkhpekjaaW.PrintMore
attribute [local go_sem] max2_int min2_int max_two min_two max_three min_three max_four min_four   -- for this text's walks alone
open Go.Proofs.YtefkbmhkhpekjaaMine
set_option linter.unusedVariables false
set_option linter.unusedSimpArgs false

theorem z49_1 {p : Prop} (h : p := by first | rfl | (simp; done) | (simp [*]; done)) : p := h
theorem z49_2 {p : Prop} (h : p := by first | (with_reducible assumption) | assumption) : p := h
theorem z49_3 {p : Prop} (h : p := by first | rfl | (simp [errW_none, errW_some] <;> rfl) | (simp [*, errW_none, errW_some] <;> rfl)) : p := h
theorem z49_4 {p : Prop} (h : p := by repeat (first | (with_reducible first | exact HB.out | apply below_alloc | apply pw_below_drewN | apply below_drew1) | exact HB.out)) : p := h
theorem z49_5 {p : Prop} (h : p := by first | exact Kd.S_nil _ _ _ _ _ | exact Kd.N_nil _ _ _ _ _ | exact Kd.V_nil _ _ _ _ _ | exact Kd.Q_nil _ _ _ _ _ | exact Kd.R_nil _ _ _ _ _) : p := h
theorem z49_6 {p : Prop} (h : p := by repeat (first | (with_reducible first | exact HB.out | apply below_alloc | apply pw_below_drewN | apply below_drew1 | refine below_set ?_ GE1022.out) | exact HB.out)) : p := h
theorem z49_7 {p : Prop} (h : p := by repeat (first | (with_reducible first | exact HB.out | apply below_alloc | apply pw_below_drewN | apply below_drew1 | refine below_set ?_ GE1022.out | refine below_set ?_ GE1023.out) | exact HB.out)) : p := h
theorem z49_8 {p : Prop} (h : p := by repeat (first | (with_reducible first | exact HB.out | apply below_alloc | apply pw_below_drewN | apply below_drew1 | refine below_set ?_ GE1022.out | refine below_set ?_ GE1023.out | refine below_set ?_ GE1026.out) | exact HB.out)) : p := h
theorem z49_9 {p : Prop} (h : p := by (with_reducible repeat (first | refine blk_drewN ?_ _ | refine blk_drew ?_ | refine blk_alloc ?_ _)); refine blk_far ?_ NB1022_1026.out _; (with_reducible repeat (first | refine blk_drewN ?_ _ | refine blk_drew ?_ | refine blk_alloc ?_ _)); exact BK1022.out) : p := h
theorem z49_10 {p : Prop} (h : p := by (with_reducible repeat (first | refine blk_drewN ?_ _ | refine blk_drew ?_ | refine blk_alloc ?_ _)); refine blk_far ?_ NB1023_1026.out _; (with_reducible repeat (first | refine blk_drewN ?_ _ | refine blk_drew ?_ | refine blk_alloc ?_ _)); exact BK1023.out) : p := h
theorem z49_11 {p : Prop} (h : p := by (with_reducible repeat (first | refine blk_drewN ?_ _ | refine blk_drew ?_ | refine blk_alloc ?_ _)); refine blk_put (cs := #[.slice none 0 0]) ?_ 0 _ rfl; (with_reducible repeat (first | refine blk_drewN ?_ _ | refine blk_drew ?_ | refine blk_alloc ?_ _)); exact BK1023.out) : p := h
/-! ### spec_TurnThreads: function 49 -/
mutual
def spec_TurnThreads.j0 : Nat → List Int → Bool → List (List (S85)) → Option ((List (List (S85))) × Bool)
  | 0, _, _, _ => none
  | k + 1, x1, x18, x1023000 => if x18 = true then (some (([] : List (List (S85))), false)) else (spec_TurnThreads.l0 k x1 0 x1023000 ([] : List (List (S85))))
def spec_TurnThreads.l0 : Nat → List Int → Int → List (List (S85)) → List (List (S85)) → Option ((List (List (S85))) × Bool)
  | 0, _, _, _, _ => none
  | k + 1, x1, x7, x1023000, x1027000 => if x7 < (x1.length : Int) then ((some (([] : List (S85)) : List (S85))).bind fun y1027 => (if 0 ≤ x7 then (if 0 ≤ (rd x1 x7) then (if (rd x1 x7) < (x1023000.length : Int) then (if y1027.length + (rd_L7 x1023000 (rd x1 x7)).length < 5864062014805 then (if x1027000.length < 5864062014805 then (spec_TurnThreads.l0 k x1 (wrap64 (x7 + 1)) x1023000 (x1027000 ++ [(y1027 ++ (rd_L7 x1023000 (rd x1 x7)))])) else (none)) else (none)) else (none)) else (none)) else (none))) else (some (x1027000, true))
end
def spec_TurnThreads.f (k : Nat) (l0_0 : List (List (S85))) (l1 : List Int) : Option ((List (List (S85))) × Bool) := (spec_ProgOk.f k l0_0).bind fun t1024 => (if t1024 = true then ((spec_l22Row.f k l1 (l0_0.length : Int)).bind fun t1025 => (spec_TurnThreads.j0 k l1 (!t1025) l0_0)) else (spec_TurnThreads.j0 k l1 true l0_0))
theorem spec_TurnThreads.mono_l : ∀ k, (∀ y0 y1 y2, LeO (spec_TurnThreads.j0 k y0 y1 y2) (spec_TurnThreads.j0 (k + 1) y0 y1 y2)) ∧ (∀ y0 y1 y2 y3, LeO (spec_TurnThreads.l0 k y0 y1 y2 y3) (spec_TurnThreads.l0 (k + 1) y0 y1 y2 y3))
  | 0 => ⟨fun _ _ _ r h => by simp [spec_TurnThreads.j0] at h, fun _ _ _ _ r h => by simp [spec_TurnThreads.l0] at h⟩
  | k + 1 => by
    obtain ⟨ih0, ih1⟩ := spec_TurnThreads.mono_l k
    refine ⟨?_, ?_⟩
    · intro y0 y1 y2
      unfold spec_TurnThreads.j0
      repeat' first
      | (with_reducible exact ih0 _ _ _)
      | (with_reducible exact ih1 _ _ _ _)
      | (with_reducible exact spec_ProgOk.mono _ _)
      | (with_reducible exact spec_l22Row.mono _ _ _)
      | (with_reducible exact LeO.refl _)
      | (with_reducible exact LeO.none _)
      | (with_reducible refine LeO.ite ?_ ?_)
      | (with_reducible refine LeO.bind ?_ (fun _ => ?_))
      | exact ih0 _ _ _
      | exact ih1 _ _ _ _
      | exact spec_ProgOk.mono _ _
      | exact spec_l22Row.mono _ _ _
      | exact LeO.none _
      | refine LeO.ite ?_ ?_
      | refine LeO.bind ?_ (fun _ => ?_)
    · intro y0 y1 y2 y3
      unfold spec_TurnThreads.l0
      repeat' first
      | (with_reducible exact ih0 _ _ _)
      | (with_reducible exact ih1 _ _ _ _)
      | (with_reducible exact spec_ProgOk.mono _ _)
      | (with_reducible exact spec_l22Row.mono _ _ _)
      | (with_reducible exact LeO.refl _)
      | (with_reducible exact LeO.none _)
      | (with_reducible refine LeO.ite ?_ ?_)
      | (with_reducible refine LeO.bind ?_ (fun _ => ?_))
      | exact ih0 _ _ _
      | exact ih1 _ _ _ _
      | exact spec_ProgOk.mono _ _
      | exact spec_l22Row.mono _ _ _
      | exact LeO.none _
      | refine LeO.ite ?_ ?_
      | refine LeO.bind ?_ (fun _ => ?_)
theorem spec_TurnThreads.mono : ∀ a0 a1 k, LeO (spec_TurnThreads.f k a0 a1) (spec_TurnThreads.f (k + 1) a0 a1) := by
  intro a0 a1 k
  obtain ⟨ih0, ih1⟩ := spec_TurnThreads.mono_l k
  unfold spec_TurnThreads.f
  repeat' first
      | (with_reducible exact ih0 _ _ _)
      | (with_reducible exact ih1 _ _ _ _)
      | (with_reducible exact spec_ProgOk.mono _ _)
      | (with_reducible exact spec_l22Row.mono _ _ _)
      | (with_reducible exact LeO.refl _)
      | (with_reducible exact LeO.none _)
      | (with_reducible refine LeO.ite ?_ ?_)
      | (with_reducible refine LeO.bind ?_ (fun _ => ?_))
      | exact ih0 _ _ _
      | exact ih1 _ _ _ _
      | exact spec_ProgOk.mono _ _
      | exact spec_l22Row.mono _ _ _
      | exact LeO.none _
      | refine LeO.ite ?_ ?_
      | refine LeO.bind ?_ (fun _ => ?_)
def spec_TurnThreads.T7 : Bool × List (List Nat × List Nat) := (true, [([], []), ([0], [0]), ([], []), ([], []), ([3], [3]), ([], []), ([], []), ([5, 6], [5, 6]), ([7], [7]), ([4, 8], [4, 8]), ([9], [9]), ([2, 10], [2, 10]), ([11], [11]), ([1, 12, 11], [1, 12]), ([0, 1, 2, 3, 4, 5, 6, 7, 8, 9, 10, 11, 12, 13], []), ([14, 13, 13, 0, 1, 2, 3, 4, 5, 6, 7, 8, 9, 10, 11, 12, 13], [13, 14])])
def spec_TurnThreads.B7 : List Nat := [0, 1, 0, 0, 8, 0, 0, 96, 224, 504, 1016, 2044, 4092, 8191, 16383, 32767]
theorem spec_TurnThreads.tab7 : rtab .any (opsOf Try.f49 7) = spec_TurnThreads.T7 := by kernel_rfl
theorem spec_TurnThreads.bits7 : waitsOk spec_TurnThreads.T7.2 spec_TurnThreads.B7 = true := by kernel_rfl
set_option maxHeartbeats 8000000 in
set_option maxRecDepth 100000 in
theorem spec_TurnThreads.calls (k : Nat) (A0_0 : Option Addr) (c0_0 : Nat) (l0_0 : List (List (S85))) (A1 : Option Addr) (c1 : Nat) (l1 : List Int) (r1 : List (List (S85))) (r2 : Bool) (w : World) (hr0_0 : Kd.C (Kd.slice 85 k85) w A0_0 l0_0.length l0_0) (hc0_0 : l0_0.length ≤ c0_0) (hr1 : Kd.C (Kd.int .i64) w A1 l1.length l1) (hc1 : l1.length ≤ c1) (h : spec_TurnThreads.f k l0_0 l1 = some (r1, r2)) :
  Calls Try.prog 49 #[.agg #[.slice A0_0 l0_0.length c0_0], .slice A1 l1.length c1] w fun e w' => ∃ v0_ : Value, e = .returned (.tuple #[.agg #[v0_], .bool r2]) ∧ Kd.S (Kd.slice 85 k85) 82 w' w.heap.size (fun _ => True) v0_ r1 ∧ Below w.heap.size w w' := by
 have hu35 := Try.underlying35
 have HR0_0 := am_ hr0_0
 have HC0_0 := am_ hc0_0
 clear hr0_0 hc0_0
 have HR1 := am_ hr1
 have HC1 := am_ hc1
 clear hr1 hc1
 have HB := am_ (Below.refl w.heap.size w)
 have H : ((spec_ProgOk.f k l0_0).bind fun t1024 => (if t1024 = true then ((spec_l22Row.f k l1 (l0_0.length : Int)).bind fun t1025 => (spec_TurnThreads.j0 k l1 (!t1025) l0_0)) else (spec_TurnThreads.j0 k l1 true l0_0))) = some (r1, r2) := h
 clear h
 have HC3 := am_ H
 clear H
 go_enter Try.func49, Try.ntmps49
 go_upto_region 1 with (first | ((with_reducible refine gate_dst (N := 2) rfl ?_); (try (refine gate_guard (by rfl) ?_; dsimp only)); refine box_event ?hg (N := 2) ?hd (cs := #[.slice A0_0 l0_0.length c0_0]) (t := 35) ?hr ?_; (case hd => rfl); (case hg => rfl); (case hr => first | (go_simp; done) | (go_simp; rfl)); intro gb1022 hg w4 hbox hb; have n0_ := am_ (below_step z49_4 hb); have n1_ := am_ (hbox); have n2_ := am_ (by rw [hg]; exact (below_size z49_4) : w.heap.size ≤ gb1022); have n3_ := am_ (by rw [hg]; exact (below_size z49_4) : w.heap.size ≤ gb1022); clear HB; have HB := n0_; have BK1022 := n1_; have GW1022 := n2_; have GE1022 := n3_; clear n0_ n1_ n2_ n3_; clear hb hbox hg) | ((with_reducible refine gate_dst (N := 4) rfl ?_); (try (refine gate_guard (by rfl) ?_; dsimp only)); refine box_event ?hg (N := 4) ?hd (cs := #[.slice none 0 0]) (t := 35) ?hr ?_; (case hd => rfl); (case hg => rfl); (case hr => first | (go_simp; done) | (go_simp; rfl)); intro gb1023 hg w5 hbox hb; have n0_ := am_ (blk_below (bu BK1022.out) hb); have n1_ := am_ (below_step z49_6 hb); have n2_ := am_ (hbox); have n3_ := am_ (by rw [hg]; exact (below_size z49_6) : w.heap.size ≤ gb1023); have n4_ := am_ (by rw [hg]; exact (below_size z49_6) : w.heap.size ≤ gb1023); have n5_ := am_ (by rw [hg]; exact Nat.ne_of_lt (blk_lt (bu BK1022.out)) : gb1022 ≠ gb1023); have n6_ := am_ (by rw [hg]; exact Nat.ne_of_gt (blk_lt (bu BK1022.out)) : gb1023 ≠ gb1022); clear BK1022 HB; have BK1022 := n0_; have HB := n1_; have BK1023 := n2_; have GW1023 := n3_; have GE1023 := n4_; have NB1022_1023 := n5_; have NB1023_1022 := n6_; clear n0_ n1_ n2_ n3_ n4_ n5_ n6_; clear hb hbox hg))
 (try simp only [Act.put, List.setIfInBounds_toArray, List.set_cons_zero, List.set_cons_succ])
 go_cut [18] (fun v18 wc => ∃ (kq : Nat) (x18_2 : Bool), v18 = .bool x18_2 ∧ Aside0 (spec_TurnThreads.j0 kq l1 x18_2 l0_0 = some (r1, r2)) ∧ Aside0 (kq ≤ k) ∧ Aside0 (wc.heap[gb1022]? = some (.cells #[(.slice A0_0 l0_0.length c0_0)] 35 (0, 0))) ∧ Aside0 (wc.heap[gb1023]? = some (.cells #[(.slice none 0 0)] 35 (0, 0))) ∧ Aside0 (Below w.heap.size w wc))
 case first =>
  have H := HC3.out
  clear HC3
  replace H := Option.bind_eq_some_iff.mp H
  obtain ⟨t1024, A60, H⟩ := H
  replace H : (if t1024 = true then ((spec_l22Row.f k l1 (l0_0.length : Int)).bind fun t1025 => (spec_TurnThreads.j0 k l1 (!t1025) l0_0)) else (spec_TurnThreads.j0 k l1 true l0_0)) = some (r1, r2) := H
  have A6 := am_ A60
  clear A60
  by_cases c7 : t1024 = true
  ·subst c7
   have H1 : ((spec_l22Row.f k l1 (l0_0.length : Int)).bind fun t1025 => (spec_TurnThreads.j0 k l1 (!t1025) l0_0)) = some (r1, r2) := by rw [if_pos rfl] at H; exact H
   clear H
   have H := H1
   clear H1
   replace H := Option.bind_eq_some_iff.mp H
   obtain ⟨t1025, A80, H⟩ := H
   replace H : (spec_TurnThreads.j0 k l1 (!t1025) l0_0) = some (r1, r2) := H
   have A8 := am_ A80
   clear A80
   have H' := am_ H
   clear H
   have hnb9 := NB1022_1023.out
   have hnc9 := NB1023_1022.out
   have hcz10_0 : w5.cell? ⟨gb1022, 0, none⟩ = some (.slice A0_0 l0_0.length c0_0) := (blk_cell BK1022.out 0).trans rfl
   have hfz10_0 := blk_frozen BK1022.out 0
   go_wp2_with (first | ((with_reducible refine gate_callee (f := 43) rfl ?_); refine goesL_ (some 9) rfl rfl Try.func43 (by kernel_rfl) rfl #[.agg #[.slice A0_0 l0_0.length c0_0]] rfl (by (try simp only [List.map_toArray, List.map_cons, List.map_nil]); first | done | rfl | (simp only [List.length_drop, List.length_take]; rfl)) ?_; (with_reducible refine (spec_ProgOk.calls k _ _ l0_0 true _ ?side1 ?side2 A6.out).mono ?_); (case side1 => repeat (first | exact (Kd.C_below HR0_0.out HB.out) | (with_reducible refine Kd.C_alloc ?_ _) | (with_reducible refine Kd.C_drewN ?_ _) | (with_reducible refine Kd.C_drew ?_))); (case side2 => exact HC0_0.out); rintro e w11 ⟨rfl, hb⟩; refine ⟨_, rfl, ?_⟩; have n0_ := am_ (blk_below (bu BK1022.out) hb); have n1_ := am_ (blk_below (bu BK1023.out) hb); have n2_ := am_ (below_step z49_7 hb); clear BK1022 BK1023 HB; have BK1022 := n0_; have BK1023 := n1_; have HB := n2_; clear n0_ n1_ n2_; (try clear hb); (try clear hb2); (try clear hk); (try clear hi); have hcz12_0 : w11.cell? ⟨gb1022, 0, none⟩ = some (.slice A0_0 l0_0.length c0_0) := (blk_cell BK1022.out 0).trans rfl; have hfz12_0 := blk_frozen BK1022.out 0) | (go_at_call 100; (with_reducible refine (spec_l22Row.calls k _ _ l1 (l0_0.length : Int) t1025 _ ?side1 ?side2 A8.out).mono ?_); (case side1 => repeat (first | exact (Kd.C_below HR1.out HB.out) | (with_reducible refine Kd.C_alloc ?_ _) | (with_reducible refine Kd.C_drewN ?_ _) | (with_reducible refine Kd.C_drew ?_))); (case side2 => exact HC1.out); rintro e w' ⟨rfl, ⟨nd, rfl⟩⟩))
   go_meet
   case rel => exact ⟨_, (!t1025), z49_1, H', ⟨by first | omega | exact Nat.le_refl _⟩, ⟨bu BK1022.out⟩, ⟨bu BK1023.out⟩, ⟨z49_7⟩⟩
  ·replace c7 := Bool.eq_false_iff.mpr c7
   subst c7
   have H1 : (spec_TurnThreads.j0 k l1 true l0_0) = some (r1, r2) := by rw [if_neg (show ¬ (false = true) by decide)] at H; exact H
   clear H
   have H := H1
   clear H1
   have H' := am_ H
   clear H
   have hnb13 := NB1022_1023.out
   have hnc13 := NB1023_1022.out
   have hcz14_0 : w5.cell? ⟨gb1022, 0, none⟩ = some (.slice A0_0 l0_0.length c0_0) := (blk_cell BK1022.out 0).trans rfl
   have hfz14_0 := blk_frozen BK1022.out 0
   go_wp2_with (first | ((with_reducible refine gate_callee (f := 43) rfl ?_); refine goesL_ (some 9) rfl rfl Try.func43 (by kernel_rfl) rfl #[.agg #[.slice A0_0 l0_0.length c0_0]] rfl (by (try simp only [List.map_toArray, List.map_cons, List.map_nil]); first | done | rfl | (simp only [List.length_drop, List.length_take]; rfl)) ?_; (with_reducible refine (spec_ProgOk.calls k _ _ l0_0 false _ ?side1 ?side2 A6.out).mono ?_); (case side1 => repeat (first | exact (Kd.C_below HR0_0.out HB.out) | (with_reducible refine Kd.C_alloc ?_ _) | (with_reducible refine Kd.C_drewN ?_ _) | (with_reducible refine Kd.C_drew ?_))); (case side2 => exact HC0_0.out); rintro e w15 ⟨rfl, hb⟩; refine ⟨_, rfl, ?_⟩; have n0_ := am_ (blk_below (bu BK1022.out) hb); have n1_ := am_ (blk_below (bu BK1023.out) hb); have n2_ := am_ (below_step z49_7 hb); clear BK1022 BK1023 HB; have BK1022 := n0_; have BK1023 := n1_; have HB := n2_; clear n0_ n1_ n2_; (try clear hb); (try clear hb2); (try clear hk); (try clear hi)))
   go_meet
   case rel => exact ⟨_, (true), z49_1, H', ⟨by first | omega | exact Nat.le_refl _⟩, ⟨bu BK1022.out⟩, ⟨bu BK1023.out⟩, ⟨z49_7⟩⟩
 case rest =>
  clear HC3
  obtain ⟨kq, x18_2, rfl, HA, HJ2, BK1022, BK1023, HB⟩ := hcut
  cases kq with
  | zero => exact absurd HA.out (by simp [spec_TurnThreads.j0])
  | succ kj2 =>
   have H := HA.out
   clear HA
   simp only [spec_TurnThreads.j0] at H
   by_cases c16 : x18_2 = true
   ·subst c16
    have H1 : (some (([] : List (List (S85))), false)) = some (r1, r2) := by rw [if_pos rfl] at H; exact H
    clear H
    have H := H1
    clear H1
    simp only [Option.some.injEq, Prod.mk.injEq] at H
    obtain ⟨rfl, rfl⟩ := H
    have hnb17 := NB1023_1022.out
    have hnc17 := NB1022_1023.out
    have hcz18_0 : wc.cell? ⟨gb1023, 0, none⟩ = some (.slice none 0 0) := (blk_cell BK1023.out 0).trans rfl
    have hfz18_0 := blk_frozen BK1023.out 0
    go_wp2
    refine bodyPost_ret (results_ct rfl _ _ gb1023 35 #[.slice none 0 0] (0, 0) _ rfl z49_11 Try.underlying35 rfl (by kernel_rfl)) rfl ?_
    exact ⟨_, z49_3, z49_5, z49_7⟩
   ·replace c16 := Bool.eq_false_iff.mpr c16
    subst c16
    have H1 : (spec_TurnThreads.l0 kj2 l1 0 l0_0 ([] : List (List (S85)))) = some (r1, r2) := by rw [if_neg (show ¬ (false = true) by decide)] at H; exact H
    clear H
    have H := H1
    clear H1
    have H' := am_ H
    clear H
    go_wp2_with (first | ((with_reducible refine gate_dst (N := 6) rfl ?_); (try (refine gate_guard (by rfl) ?_; dsimp only)); refine box_event ?hg (N := 6) ?hd (cs := #[.slice none 0 0]) (t := 35) ?hr ?_; (case hd => rfl); (case hg => rfl); (case hr => first | (go_simp; done) | (go_simp; rfl)); intro gb1026 hg w19 hbox hb; have n0_ := am_ (blk_below (bu BK1022.out) hb); have n1_ := am_ (blk_below (bu BK1023.out) hb); have n2_ := am_ (below_step z49_7 hb); have n3_ := am_ (hbox); have n4_ := am_ (by rw [hg]; exact (below_size z49_7) : w.heap.size ≤ gb1026); have n5_ := am_ (by rw [hg]; exact (below_size z49_7) : w.heap.size ≤ gb1026); have n6_ := am_ (by rw [hg]; exact Nat.ne_of_lt (blk_lt (bu BK1022.out)) : gb1022 ≠ gb1026); have n7_ := am_ (by rw [hg]; exact Nat.ne_of_gt (blk_lt (bu BK1022.out)) : gb1026 ≠ gb1022); have n8_ := am_ (by rw [hg]; exact Nat.ne_of_lt (blk_lt (bu BK1023.out)) : gb1023 ≠ gb1026); have n9_ := am_ (by rw [hg]; exact Nat.ne_of_gt (blk_lt (bu BK1023.out)) : gb1026 ≠ gb1023); clear BK1022 BK1023 HB; have BK1022 := n0_; have BK1023 := n1_; have HB := n2_; have BK1026 := n3_; have GW1026 := n4_; have GE1026 := n5_; have NB1022_1026 := n6_; have NB1026_1022 := n7_; have NB1023_1026 := n8_; have NB1026_1023 := n9_; clear n0_ n1_ n2_ n3_ n4_ n5_ n6_ n7_ n8_ n9_; clear hb hbox hg; have hnb20 := NB1026_1022.out; have hnc20 := NB1022_1026.out; have hnb21 := NB1026_1023.out; have hnc21 := NB1023_1026.out; have hcz22_0 : w19.cell? ⟨gb1026, 0, none⟩ = some (.slice none 0 0) := (blk_cell BK1026.out 0).trans rfl; have hfz22_0 := blk_frozen BK1026.out 0))
    go_loopg [7] kj2 (fun kq v7 w' => ∃ (x7_2 : Int) (x1027000_2 : List (List (S85))) (u1027000 : Value), v7 = .int .i64 x7_2 ∧ Aside0 (spec_TurnThreads.l0 kq l1 x7_2 l0_0 x1027000_2 = some (r1, r2)) ∧ Aside0 (kq ≤ kj2) ∧ Aside0 (Kd.S (Kd.slice 85 k85) 82 w' w.heap.size (fun _ => True) u1027000 x1027000_2) ∧ Aside0 (w'.heap[gb1022]? = some (.cells #[(.slice A0_0 l0_0.length c0_0)] 35 (0, 0))) ∧ Aside0 (w'.heap[gb1023]? = some (.cells #[(.slice none 0 0)] 35 (0, 0))) ∧ Aside0 (w'.heap[gb1026]? = some (.cells #[u1027000] 35 (0, 0))) ∧ Aside0 (Below w.heap.size w w'))
    case atStart => exact ⟨(0), (([] : List (List (S85)))), (.slice none 0 0), z49_1, H', ⟨Nat.le_refl _⟩, ⟨z49_5⟩, ⟨z49_9⟩, ⟨z49_10⟩, ⟨by (with_reducible repeat (first | refine blk_drewN ?_ _ | refine blk_drew ?_ | refine blk_alloc ?_ _)); refine blk_put (cs := #[.slice none 0 0]) ?_ 0 _ rfl; (with_reducible repeat (first | refine blk_drewN ?_ _ | refine blk_drew ?_ | refine blk_alloc ?_ _)); exact BK1026.out⟩, ⟨z49_8⟩⟩
    case round =>
     clear H'
     obtain ⟨x7_2, x1027000_2, u1027000, rfl, HA, HK2, HO_1027000, BK1022, BK1023, BK1026, HB⟩ := hrel
     cases gk with
     | zero => exact absurd HA.out (by simp [spec_TurnThreads.l0])
     | succ k2 =>
      have H := HA.out
      clear HA
      simp only [spec_TurnThreads.l0] at H
      by_cases c23 : x7_2 < (l1.length : Int)
      ·rw [if_pos c23] at H
       have c23b0 : decide (x7_2 < (l1.length : Int)) = true := decide_eq_true c23
       clear c23
       obtain ⟨y1027, hy1027⟩ : ∃ y_ : List (S85), y_ = (([] : List (S85))) := ⟨_, rfl⟩
       replace H : (if 0 ≤ x7_2 then (if 0 ≤ (rd l1 x7_2) then (if (rd l1 x7_2) < (l0_0.length : Int) then (if y1027.length + (rd_L7 l0_0 (rd l1 x7_2)).length < 5864062014805 then (if x1027000_2.length < 5864062014805 then (spec_TurnThreads.l0 k2 l1 (wrap64 (x7_2 + 1)) l0_0 (x1027000_2 ++ [(y1027 ++ (rd_L7 l0_0 (rd l1 x7_2)))])) else (none)) else (none)) else (none)) else (none)) else (none)) = some (r1, r2) := by first | (rw [hy1027]; with_reducible exact H) | (have H2_ := (Option.bind_some _ _).symm.trans H; rw [hy1027]; with_reducible exact H2_) | (have H2_ := (Option.bind_some _ _).symm.trans H; with_reducible exact H2_) | with_reducible exact H | (rw [hy1027]; exact H) | exact H
       have Ny1027 := am_ hy1027
       clear hy1027
       by_cases c24 : 0 ≤ x7_2
       ·rw [if_pos c24] at H
        have c24b0 : decide (0 ≤ x7_2) = true := decide_eq_true c24
        clear c24
        by_cases c25 : 0 ≤ (rd l1 x7_2)
        ·rw [if_pos c25] at H
         have c25b0 : decide (0 ≤ (rd l1 x7_2)) = true := decide_eq_true c25
         clear c25
         by_cases c26 : (rd l1 x7_2) < (l0_0.length : Int)
         ·rw [if_pos c26] at H
          have c26b0 : decide ((rd l1 x7_2) < (l0_0.length : Int)) = true := decide_eq_true c26
          clear c26
          by_cases c27 : y1027.length + (rd_L7 l0_0 (rd l1 x7_2)).length < 5864062014805
          ·rw [if_pos c27] at H
           have LMc27 := am_ c27
           clear c27
           obtain ⟨y1032, hy1032⟩ : ∃ y_ : List (S85), y_ = (y1027 ++ (rd_L7 l0_0 (rd l1 x7_2))) := ⟨_, rfl⟩
           replace H : (if x1027000_2.length < 5864062014805 then (spec_TurnThreads.l0 k2 l1 (wrap64 (x7_2 + 1)) l0_0 (x1027000_2 ++ [y1032])) else (none)) = some (r1, r2) := by first | (rw [hy1032]; with_reducible exact H) | (have H2_ := (Option.bind_some _ _).symm.trans H; rw [hy1032]; with_reducible exact H2_) | (have H2_ := (Option.bind_some _ _).symm.trans H; with_reducible exact H2_) | with_reducible exact H | (rw [hy1032]; exact H) | exact H
           have Ny1032 := am_ hy1032
           clear hy1032
           by_cases c28 : x1027000_2.length < 5864062014805
           ·rw [if_pos c28] at H
            have LMc28 := am_ c28
            clear c28
            obtain ⟨y1035, hy1035⟩ : ∃ y_ : List (List (S85)), y_ = (x1027000_2 ++ [y1032]) := ⟨_, rfl⟩
            replace H : (spec_TurnThreads.l0 k2 l1 (wrap64 (x7_2 + 1)) l0_0 y1035) = some (r1, r2) := by first | (rw [hy1035]; with_reducible exact H) | (have H2_ := (Option.bind_some _ _).symm.trans H; rw [hy1035]; with_reducible exact H2_) | (have H2_ := (Option.bind_some _ _).symm.trans H; with_reducible exact H2_) | with_reducible exact H | (rw [hy1035]; exact H) | exact H
            have Ny1035 := am_ hy1035
            clear hy1035
            have H' := am_ H
            clear H
            try go_wp2
            have n0_ := am_ (Kd.S_drew HO_1027000.out)
            have n1_ := am_ (blk_drew BK1022.out)
            have n2_ := am_ (blk_drew BK1023.out)
            have n3_ := am_ (blk_drew BK1026.out)
            have n4_ := am_ (below_drew1 HB.out)
            clear HO_1027000 BK1022 BK1023 BK1026 HB
            have HO_1027000 := n0_
            have BK1022 := n1_
            have BK1023 := n2_
            have BK1026 := n3_
            have HB := n4_
            clear n0_ n1_ n2_ n3_ n4_
            have p1030 : 0 ≤ (x7_2 : Int) := of_decide_eq_true z49_2
            have q1030 : x7_2 < (l1.length : Int) := of_decide_eq_true z49_2
            obtain ⟨ad1030, e1030, hx1030_0⟩ := Kd.at_int HR1.out x7_2 p1030 q1030
            have hw1030_0 := hx1030_0
            cases e1030
            replace hx1030_0 := (HB.out.cell (World.block_lt_of_cell? w _ hx1030_0)).trans hx1030_0
            replace p1030 := eq_true p1030
            replace q1030 := eq_true q1030
            have p1031 : 0 ≤ ((rd l1 x7_2) : Int) := of_decide_eq_true z49_2
            have q1031 : (rd l1 x7_2) < (l0_0.length : Int) := of_decide_eq_true z49_2
            obtain ⟨ad1031, A1031_0, c1031_0, e1031, hx1031_0, hl1031_0, hi1031_0⟩ := at_L7 HR0_0.out (rd l1 x7_2) p1031 q1031
            have hw1031_0 := hx1031_0
            cases e1031
            replace hx1031_0 := (HB.out.cell (World.block_lt_of_cell? w _ hx1031_0)).trans hx1031_0
            have HR1031_0 := am_ hi1031_0
            have HC1031_0 := am_ hl1031_0
            clear hi1031_0 hl1031_0
            replace p1031 := eq_true p1031
            replace q1031 := eq_true q1031
            refine start_ (n := 16) (S := fun w' => w'.cell? ⟨gb1026, 0, none⟩ = some (u1027000) ∧ w'.cell? ⟨gb1022, 0, none⟩ = some (.slice (some ad1031) l0_0.length c0_0) ∧ w'.cell? (ad1030.add (x7_2).toNat) = some (.int .i64 (rd l1 x7_2)) ∧ w'.cell? (ad1031.add ((rd l1 x7_2)).toNat) = some (.slice A1031_0 (rd_L7 l0_0 (rd l1 x7_2)).length c1031_0)) (ds := [15]) #[false, false, false, false, false, false, false, false, false, false, false, false, false, false, false, false] (by kernel_rfl) rfl rfl ⟨(blk_cell BK1026.out 0).trans rfl, (blk_cell BK1022.out 0).trans rfl, ((HB.out.cell (World.block_lt_of_cell? w _ hw1030_0)).trans hw1030_0), ((HB.out.cell (World.block_lt_of_cell? w _ hw1031_0)).trans hw1031_0)⟩ (fun hHeld => ?_); refine with_tabW spec_TurnThreads.tab7 spec_TurnThreads.bits7 (fun HT_ HW_ => ?_)
            generalize wr.drew = w29 at HO_1027000 BK1022 BK1023 BK1026 HB HR1031_0 hx1030_0 hx1031_0 hHeld ⊢
            refine pure_ (i := 0) (N := some 27) (v := ?_) (a' := ?_) #[true, false, false, false, false, false, false, false, false, false, false, false, false, false, false, false] rfl rfl (any_of HT_.out (by kernel_rfl)) (fun _ _ _ h => h) (Or.inl ⟨by rfl, ?_⟩) ?_ ?_
            rotate_left
            ·intro w'
             go_simp
             with_reducible rfl
            rotate_left
            ·simp only [Act.put, List.setIfInBounds_toArray, List.set_cons_zero, List.set_cons_succ, i64_w, i32_w]
             rfl
            refine pure_ (i := 3) (N := some 30) (v := ?_) (a' := ?_) #[true, false, false, true, false, false, false, false, false, false, false, false, false, false, false, false] rfl rfl (any_of HT_.out (by kernel_rfl)) (fun _ _ _ h => h) (Or.inl ⟨by rfl, ?_⟩) ?_ ?_
            rotate_left
            ·intro w'
             go_simp
             with_reducible rfl
            rotate_left
            ·simp only [Act.put, List.setIfInBounds_toArray, List.set_cons_zero, List.set_cons_succ, i64_w, i32_w]
             rfl
            refine pure_ (i := 5) (N := some 32) (v := ?_) (a' := ?_) #[true, false, false, true, false, true, false, false, false, false, false, false, false, false, false, false] rfl rfl (any_of HT_.out (by kernel_rfl)) (fun _ _ _ h => h) (Or.inl ⟨by rfl, ?_⟩) ?_ ?_
            rotate_left
            ·intro w'
             go_simp
             with_reducible rfl
            rotate_left
            ·simp only [Act.put, List.setIfInBounds_toArray, List.set_cons_zero, List.set_cons_succ, i64_w, i32_w]
             rfl
            refine pure_ (i := 6) (N := some 33) (v := ?_) (a' := ?_) #[true, false, false, true, false, true, true, false, false, false, false, false, false, false, false, false] rfl rfl (any_of HT_.out (by kernel_rfl)) (fun _ _ _ h => h) (Or.inl ⟨by rfl, ?_⟩) ?_ ?_
            rotate_left
            ·intro w'
             go_simp
             with_reducible rfl
            rotate_left
            ·simp only [Act.put, List.setIfInBounds_toArray, List.set_cons_zero, List.set_cons_succ, i64_w, i32_w]
             rfl
            refine pure_ (i := 7) (N := some 34) (v := ?_) (a' := ?_) #[true, false, false, true, false, true, true, true, false, false, false, false, false, false, false, false] rfl rfl (any_of HT_.out (by kernel_rfl)) (fun _ _ _ h => h) (Or.inl ⟨by rfl, ?_⟩) ?_ ?_
            rotate_left
            ·intro w'
             go_simp
             with_reducible rfl
            rotate_left
            ·simp only [Act.put, List.setIfInBounds_toArray, List.set_cons_zero, List.set_cons_succ, i64_w, i32_w]
             rfl
            refine take_ (i := 1) (N := some 28) (v := ?_) (a' := ?_) #[true, true, false, true, false, true, true, true, false, false, false, false, false, false, false, false] rfl rfl (take_ofW HT_.out HW_.out (by kernel_rfl)) (fun _ _ _ h => h) (Or.inl ⟨by rfl, ?_⟩) hHeld ?_ ?_
            rotate_left
            ·rintro w' ⟨s0, s1, s2, s3⟩
             go_simp
             with_reducible rfl
            rotate_left
            ·simp only [Act.put, List.setIfInBounds_toArray, List.set_cons_zero, List.set_cons_succ, i64_w, i32_w]
             rfl
            refine take_ (i := 4) (N := some 31) (v := ?_) (a' := ?_) #[true, true, false, true, true, true, true, true, false, false, false, false, false, false, false, false] rfl rfl (take_ofW HT_.out HW_.out (by kernel_rfl)) (fun _ _ _ h => h) (Or.inl ⟨by rfl, ?_⟩) hHeld ?_ ?_
            rotate_left
            ·rintro w' ⟨s0, s1, s2, s3⟩
             go_simp
             with_reducible rfl
            rotate_left
            ·simp only [Act.put, List.setIfInBounds_toArray, List.set_cons_zero, List.set_cons_succ, i64_w, i32_w]
             rfl
            refine take_ (i := 8) (N := some 35) (v := ?_) (a' := ?_) #[true, true, false, true, true, true, true, true, true, false, false, false, false, false, false, false] rfl rfl (take_ofW HT_.out HW_.out (by kernel_rfl)) (fun _ _ _ h => h) (Or.inl ⟨by rfl, ?_⟩) hHeld ?_ ?_
            rotate_left
            ·rintro w' ⟨s0, s1, s2, s3⟩
             go_simp
             with_reducible rfl
            rotate_left
            ·simp only [Act.put, List.setIfInBounds_toArray, List.set_cons_zero, List.set_cons_succ, i64_w, i32_w]
             rfl
            refine pure_ (i := 9) (N := some 36) (v := ?_) (a' := ?_) #[true, true, false, true, true, true, true, true, true, true, false, false, false, false, false, false] rfl rfl (any_of HT_.out (by kernel_rfl)) (fun _ _ _ h => h) (Or.inl ⟨by rfl, ?_⟩) ?_ ?_
            rotate_left
            ·intro w'
             go_simp
             with_reducible rfl
            rotate_left
            ·simp only [Act.put, List.setIfInBounds_toArray, List.set_cons_zero, List.set_cons_succ, i64_w, i32_w]
             rfl
            refine take_ (i := 10) (N := some 37) (v := ?_) (a' := ?_) #[true, true, false, true, true, true, true, true, true, true, true, false, false, false, false, false] rfl rfl (take_ofW HT_.out HW_.out (by kernel_rfl)) (fun _ _ _ h => h) (Or.inl ⟨by rfl, ?_⟩) hHeld ?_ ?_
            rotate_left
            ·rintro w' ⟨s0, s1, s2, s3⟩
             go_simp
             with_reducible rfl
            rotate_left
            ·simp only [Act.put, List.setIfInBounds_toArray, List.set_cons_zero, List.set_cons_succ, i64_w, i32_w]
             rfl
            refine one_ (i := 2) (N := some 29) #[true, true, true, true, true, true, true, true, true, true, true, false, false, false, false, false] rfl rfl (one_of HT_.out (by kernel_rfl)) (by decide) (fun K hK => ?_)
            refine Kd.R_lit_step k85 _ 85 ?hg (N := 29) ?hd (xs := ([] : List (S85))) (inner := []) (ok := fun _ => True) (okp := fun _ => True) ?hr ?hp (fun _ hk => hk) trivial (Below.refl _ _) (Nat.le_refl _) (by simp) ?_; (case hd => rfl); (case hg => rfl); (case hr => first | (go_simp; done) | (go_simp; rfl)); (case hp => exact (Reps.none _ _))
            intro v1028 w30 ho31 hb hg_ hnew_
            clear hg_ hnew_
            (first | rw [← Ny1027.out] at ho31 | (simp only [Int.reduceToNat] at ho31; rw [← Ny1027.out] at ho31))
            have n0_ := am_ (Kd.S_elder' (su HO_1027000.out) (Kd.R_base ho31) hb)
            have n1_ := am_ (Kd.R_lower ho31 (below_size z49_8))
            have n2_ := am_ (blk_below (bu BK1022.out) hb)
            have n3_ := am_ (blk_below (bu BK1023.out) hb)
            have n4_ := am_ (blk_below (bu BK1026.out) hb)
            have n5_ := am_ (below_step z49_8 hb)
            clear HO_1027000 BK1022 BK1023 BK1026 HB
            have HO_1027000 := n0_
            have HO1029 := n1_
            have BK1022 := n2_
            have BK1023 := n3_
            have BK1026 := n4_
            have HB := n5_
            clear n0_ n1_ n2_ n3_ n4_ n5_ hb ho31
            refine hK.out _ _ ⟨(blk_cell BK1026.out 0).trans rfl, (blk_cell BK1022.out 0).trans rfl, ((HB.out.cell (World.block_lt_of_cell? w _ hw1030_0)).trans hw1030_0), ((HB.out.cell (World.block_lt_of_cell? w _ hw1031_0)).trans hw1031_0)⟩ (fun hHeld => ?_)
            clear hK K
            refine norm_ (a' := ?_) ?_ ?_
            rotate_left
            ·show Act.put _ (some 29) _ = _
             simp only [Act.put, List.setIfInBounds_toArray, List.set_cons_zero, List.set_cons_succ, i64_w, i32_w]
             rfl
            refine one_ (i := 11) (N := some 38) #[true, true, true, true, true, true, true, true, true, true, true, true, false, false, false, false] rfl rfl (one_of HT_.out (by kernel_rfl)) (by decide) (fun K hK => ?_)
            refine Kd.R_append_rows_step k85 (w0 := w) w.heap.size (by rfl) (.tmp 29) (.tmp 37) 82 85 (.agg #[(.int .i64 0), (.int .i64 0), (.int .i64 0)]) 24 rfl Try.underlying82 info85 rfl (by decide) (by omega) v1028 y1027 (rd_L7 l0_0 (rd l1 x7_2)) _ _ _ (fun _ => True) (fun _ => False) rfl rfl ?aO ?aR (fun _ _ h => h) (fun _ h => h.elim) ?aF ?aB ?aS ?aL ?_
            (case aR => repeat (first | exact (Kd.C_below HR1031_0.out HB.out) | (with_reducible refine Kd.C_alloc ?_ _) | (with_reducible refine Kd.C_drewN ?_ _) | (with_reducible refine Kd.C_drew ?_)))
            (case aB => exact z49_8)
            (case aF => exact (fun _ _ => trivial))
            (case aO => exact (ru HO1029.out))
            (case aS => exact (below_size z49_8))
            (case aL => have := LMc27.out; omega)
            intro v1033 w32 ho hb hg hat
            rw [← Ny1032.out] at ho
            have n0_ := am_ (Kd.S_after (ok := (fun _ => True)) (su HO_1027000.out) hg hat)
            have n1_ := am_ (blk_grown (bu BK1022.out) hg (Kd.R_ne HO1029.out BK1022.out (by decide)))
            have n2_ := am_ (blk_grown (bu BK1023.out) hg (Kd.R_ne HO1029.out BK1023.out (by decide)))
            have n3_ := am_ (blk_grown (bu BK1026.out) hg (Kd.R_ne HO1029.out BK1026.out (by decide)))
            have n4_ := am_ (hb)
            have n5_ := am_ (ho)
            clear HO_1027000 BK1022 BK1023 BK1026 HB HO1029
            have HO_1027000 := n0_
            have BK1022 := n1_
            have BK1023 := n2_
            have BK1026 := n3_
            have HB := n4_
            have HO1034 := n5_
            clear n0_ n1_ n2_ n3_ n4_ n5_ ho hb hg hat
            obtain ⟨Ao34, co34, eo34⟩ := Kd.R_slice HO1034.out
            (first | subst eo34 | (injection eo34 with f1_ f2_ f3_; have f4_ := f1_.symm; have f5_ := f3_.symm; clear f1_ f2_ f3_; subst f4_; subst f5_))
            refine hK.out _ _ ⟨(blk_cell BK1026.out 0).trans rfl, (blk_cell BK1022.out 0).trans rfl, ((HB.out.cell (World.block_lt_of_cell? w _ hw1030_0)).trans hw1030_0), ((HB.out.cell (World.block_lt_of_cell? w _ hw1031_0)).trans hw1031_0)⟩ (fun hHeld => ?_)
            clear hK K
            refine norm_ (a' := ?_) ?_ ?_
            rotate_left
            ·show Act.put _ (some 38) _ = _
             simp only [Act.put, List.setIfInBounds_toArray, List.set_cons_zero, List.set_cons_succ, i64_w, i32_w]
             rfl
            refine one_ (i := 12) (N := some 39) #[true, true, true, true, true, true, true, true, true, true, true, true, true, false, false, false] rfl rfl (one_of HT_.out (by kernel_rfl)) (by decide) (fun K hK => ?_)
            refine value_ (w1 := ?_) (v := ?_) (by rfl) rfl ?_ ?_
            rotate_left 2
            ·go_simp
             constructor
             ·rfl
             ·rfl
            refine hK.out _ _ ⟨(blk_cell (blk_alloc BK1026.out _) 0).trans rfl, (blk_cell (blk_alloc BK1022.out _) 0).trans rfl, (World.cell?_alloc_lt _ _ _ (World.block_lt_of_cell? _ _ (((HB.out.cell (World.block_lt_of_cell? w _ hw1030_0)).trans hw1030_0)))).trans (((HB.out.cell (World.block_lt_of_cell? w _ hw1030_0)).trans hw1030_0)), (World.cell?_alloc_lt _ _ _ (World.block_lt_of_cell? _ _ (((HB.out.cell (World.block_lt_of_cell? w _ hw1031_0)).trans hw1031_0)))).trans (((HB.out.cell (World.block_lt_of_cell? w _ hw1031_0)).trans hw1031_0))⟩ (fun hHeld => ?_)
            clear hK K
            refine norm_ (a' := ?_) ?_ ?_
            rotate_left
            ·show Act.put _ (some 39) _ = _
             simp only [Act.put, List.setIfInBounds_toArray, List.set_cons_zero, List.set_cons_succ, i64_w, i32_w]
             rfl
            refine one_ (i := 13) (N := some 40) #[true, true, true, true, true, true, true, true, true, true, true, true, true, true, false, false] rfl rfl (one_of HT_.out (by kernel_rfl)) (by decide) (fun K hK => ?_)
            refine Kd.S_append_step (Kd.slice 85 k85) (w0 := w) w.heap.size (by rfl) (.tmp 28) (.tmp 39) 33 82 (.slice none 0 0) 24 rfl Try.underlying33 info82 rfl (by decide) (by omega) u1027000 x1027000_2 y1032 [.slice Ao34 y1032.length co34] (fun _ => True) (fun k_ => some k_ = (.slice Ao34 y1032.length co34 : Value).ownBlock) rfl rfl ?aP (fun k_ hk_ => ((Kd.R_mono (ok' := fun k_ => ((fun _ => True)) k_ ∧ some k_ ≠ (u1027000 : Value).ownBlock) (Kd.R_apart' (HO1034.out) (Kd.S_typed HO_1027000.out) (by decide)) (fun k_ hk => ⟨trivial, hk.2⟩))).1 k_ hk_.symm) ?aF ?aO ?aB ?aS ?aL ?_
            (case aP => exact Kd.M_row (Kd.R_mono (Kd.R_tight rfl (Kd.R_mono (ok' := fun k_ => ((fun _ => True)) k_ ∧ some k_ ≠ (u1027000 : Value).ownBlock) (Kd.R_apart' (HO1034.out) (Kd.S_typed HO_1027000.out) (by decide)) (fun k_ hk => ⟨trivial, hk.2⟩))) (fun _ h_ => h_)))
            (case aB => exact z49_8)
            (case aF => exact (fun _ _ => trivial))
            (case aO => exact (su (Kd.S_mono HO_1027000.out (fun k_ hk => ⟨trivial, fun e_ => hk.2 e_⟩))))
            (case aS => exact (below_size z49_8))
            (case aL => have := LMc28.out; omega)
            intro v1036 w33 ho hb hg hat
            rw [← Ny1035.out] at ho
            have n0_ := am_ (blk_grown (bu BK1022.out) hg (Kd.S_ne HO_1027000.out BK1022.out (by decide)))
            have n1_ := am_ (blk_grown (bu BK1023.out) hg (Kd.S_ne HO_1027000.out BK1023.out (by decide)))
            have n2_ := am_ (blk_grown (bu BK1026.out) hg (Kd.S_ne HO_1027000.out BK1026.out (by decide)))
            have n3_ := am_ (hb)
            have n4_ := am_ (ho)
            clear BK1022 BK1023 BK1026 HB HO_1027000 HO1034
            have BK1022 := n0_
            have BK1023 := n1_
            have BK1026 := n2_
            have HB := n3_
            have HO1037 := n4_
            clear n0_ n1_ n2_ n3_ n4_ ho hb hg hat
            obtain ⟨Ao35, co35, eo35⟩ := Kd.S_slice HO1037.out
            (first | subst eo35 | (injection eo35 with f1_ f2_ f3_; have f4_ := f1_.symm; have f5_ := f3_.symm; clear f1_ f2_ f3_; subst f4_; subst f5_))
            refine hK.out _ _ ⟨(blk_cell BK1026.out 0).trans rfl, (blk_cell BK1022.out 0).trans rfl, ((HB.out.cell (World.block_lt_of_cell? w _ hw1030_0)).trans hw1030_0), ((HB.out.cell (World.block_lt_of_cell? w _ hw1031_0)).trans hw1031_0)⟩ (fun hHeld => ?_)
            clear hK K
            refine norm_ (a' := ?_) ?_ ?_
            rotate_left
            ·show Act.put _ (some 40) _ = _
             simp only [Act.put, List.setIfInBounds_toArray, List.set_cons_zero, List.set_cons_succ, i64_w, i32_w]
             rfl
            refine pure_ (i := 14) (N := some 41) (v := ?_) (a' := ?_) #[true, true, true, true, true, true, true, true, true, true, true, true, true, true, true, false] rfl rfl (any_of HT_.out (by kernel_rfl)) (fun _ _ _ h => h) (Or.inl ⟨by rfl, ?_⟩) ?_ ?_
            rotate_left
            ·intro w'
             go_simp
             with_reducible rfl
            rotate_left
            ·simp only [Act.put, List.setIfInBounds_toArray, List.set_cons_zero, List.set_cons_succ, i64_w, i32_w]
             rfl
            refine last_ (i := 15) (N := none) #[true, true, true, true, true, true, true, true, true, true, true, true, true, true, true, true] rfl rfl (one_of HT_.out (by kernel_rfl)) (by decide) (fun K hK => ?_)
            have hs36 : w33.cell? ⟨gb1026, 0, none⟩ = some (u1027000) := (blk_cell BK1026.out 0).trans rfl
            have hfs36 := blk_frozen BK1026.out 0
            have hns36_0 := NB1022_1026.out
            have hns36_1 := NB1023_1026.out
            have hms36_0 := NB1026_1022.out
            have hms36_1 := NB1026_1023.out
            refine skip_ (w1 := ?_) (by rfl) rfl ?_ ?_
            rotate_left
            ·go_simp
             rfl
            refine hK.out _ _ ?_
            clear hK K
            refine done_ (done_of HT_.out (by kernel_rfl)) ?_
            try go_wp2
            go_roundg k2
            case measure => have := HJ2.out; have := HK2.out; omega
            case rel => exact ⟨(wrap64 (x7_2 + 1)), (y1035), (.slice Ao35 y1035.length co35), z49_1, H', ⟨by have := HJ2.out; have := HK2.out; omega⟩, ⟨su (Kd.S_mono (Kd.S_far (p := ⟨gb1026, 0, none⟩) (Kd.S_types HO1037.out BK1026.out (by decide)) (fun _ hk => hk.2) (.slice Ao35 y1035.length co35)) (fun _ hk => trivial))⟩, ⟨z49_9⟩, ⟨z49_10⟩, ⟨by (with_reducible repeat (first | refine blk_drewN ?_ _ | refine blk_drew ?_ | refine blk_alloc ?_ _)); refine blk_put (cs := #[u1027000]) ?_ 0 _ rfl; (with_reducible repeat (first | refine blk_drewN ?_ _ | refine blk_drew ?_ | refine blk_alloc ?_ _)); exact BK1026.out⟩, ⟨z49_8⟩⟩
           ·rw [if_neg c28] at H
            exact absurd H (by simp)
          ·rw [if_neg c27] at H
           exact absurd H (by simp)
         ·rw [if_neg c26] at H
          exact absurd H (by simp)
        ·rw [if_neg c25] at H
         exact absurd H (by simp)
       ·rw [if_neg c24] at H
        exact absurd H (by simp)
      ·rw [if_neg c23] at H
       have c23b0 : decide (x7_2 < (l1.length : Int)) = false := decide_eq_false c23
       clear c23
       simp only [Option.some.injEq, Prod.mk.injEq] at H
       obtain ⟨rfl, rfl⟩ := H
       have hnb37 := NB1026_1022.out
       have hnc37 := NB1022_1026.out
       have hnb38 := NB1026_1023.out
       have hnc38 := NB1023_1026.out
       have hcz39_0 : wr.cell? ⟨gb1026, 0, none⟩ = some (u1027000) := (blk_cell BK1026.out 0).trans rfl
       have hfz39_0 := blk_frozen BK1026.out 0
       obtain ⟨Ao40, co40, eo40⟩ := Kd.S_slice HO_1027000.out
       subst eo40
       have hnb41 := NB1023_1022.out
       have hnc41 := NB1022_1023.out
       have hcz42_0 : wr.cell? ⟨gb1023, 0, none⟩ = some (.slice none 0 0) := (blk_cell BK1023.out 0).trans rfl
       have hfz42_0 := blk_frozen BK1023.out 0
       go_wp2
       refine bodyPost_ret (results_ct rfl _ _ gb1023 35 #[.slice Ao40 x1027000_2.length co40] (0, 0) _ rfl z49_11 Try.underlying35 rfl (by kernel_rfl)) rfl ?_
       exact ⟨_, z49_3, su (Kd.S_mono (Kd.S_far (p := ⟨gb1023, 0, none⟩) (Kd.S_types HO_1027000.out BK1023.out (by decide)) (fun _ hk => hk.2) (.slice Ao40 x1027000_2.length co40)) (fun _ hk => trivial)), z49_8⟩

end Go.Proofs.Ytefkbmhkhpekjaa.PB

namespace Go.Proofs.Ytefkbmhkhpekjaa.PB
open Go.RowKit Go.Proofs.YtefkbmhkhpekjaaW.PrintWords Go.Proofs.YtefkbmhkhpekjaaW.PrintLast Go.Proofs.YtefkbmhkhpekjaaW.PrintMore
attribute [local go_sem] max2_int min2_int max_two min_two max_three min_three max_four min_four   -- for this text's walks alone
open Go.Proofs.YtefkbmhkhpekjaaMine
set_option linter.unusedVariables false
set_option linter.unusedSimpArgs false

theorem z53_1 {p : Prop} (h : p := by first | (with_reducible assumption) | assumption) : p := h
theorem z53_2 {p : Prop} (h : p := by repeat (first | (with_reducible first | exact HB.out | apply below_alloc | apply pw_below_drewN | apply below_drew1) | exact HB.out)) : p := h
/-! ### laws_lpBack: function 53 -/
def laws_lpBack.l0 : Nat → List Int → List Int → Int → Option (List Int)
  | 0, _, _, _ => none
  | k + 1, x0, x3, x4 => if x4 < (x0.length : Int) then (if 0 ≤ x4 then (if 0 ≤ (rd x0 x4) then (if (rd x0 x4) < (x3.length : Int) then (laws_lpBack.l0 k x0 (x3.set ((rd x0 x4) : Int).toNat x4) (wrap64 (x4 + 1))) else (none)) else (none)) else (none)) else (some x3)
def laws_lpBack.f (k : Nat) (l0 : List Int) : Option (List Int) := if 0 ≤ (l0.length : Int) then (if ((l0.length : Int) : Int).toNat ≤ 35184372088832 then (laws_lpBack.l0 k l0 (List.replicate ((l0.length : Int) : Int).toNat 0) 0) else (none)) else (none)
theorem laws_lpBack.mono_l : ∀ k, (∀ y0 y1 y2, LeO (laws_lpBack.l0 k y0 y1 y2) (laws_lpBack.l0 (k + 1) y0 y1 y2))
  | 0 => fun _ _ _ r h => by simp [laws_lpBack.l0] at h
  | k + 1 => by
    have ih0 := laws_lpBack.mono_l k
    · intro y0 y1 y2
      unfold laws_lpBack.l0
      repeat' first
      | (with_reducible exact ih0 _ _ _)
      | (with_reducible exact LeO.refl _)
      | (with_reducible exact LeO.none _)
      | (with_reducible refine LeO.ite ?_ ?_)
      | (with_reducible refine LeO.bind ?_ (fun _ => ?_))
      | exact ih0 _ _ _
      | exact LeO.none _
      | refine LeO.ite ?_ ?_
      | refine LeO.bind ?_ (fun _ => ?_)
theorem laws_lpBack.mono : ∀ a0 k, LeO (laws_lpBack.f k a0) (laws_lpBack.f (k + 1) a0) := by
  intro a0 k
  have ih0 := laws_lpBack.mono_l k
  unfold laws_lpBack.f
  repeat' first
      | (with_reducible exact ih0 _ _ _)
      | (with_reducible exact LeO.refl _)
      | (with_reducible exact LeO.none _)
      | (with_reducible refine LeO.ite ?_ ?_)
      | (with_reducible refine LeO.bind ?_ (fun _ => ?_))
      | exact ih0 _ _ _
      | exact LeO.none _
      | refine LeO.ite ?_ ?_
      | refine LeO.bind ?_ (fun _ => ?_)
set_option maxHeartbeats 8000000 in
set_option maxRecDepth 100000 in
theorem laws_lpBack.calls (k : Nat) (A0 : Option Addr) (c0 : Nat) (l0 : List Int) (r : List Int) (w : World) (hr0 : Kd.C (Kd.int .i64) w A0 l0.length l0) (hc0 : l0.length ≤ c0) (h : laws_lpBack.f k l0 = some r) :
  Calls Try.prog 53 #[.slice A0 l0.length c0] w fun e w' => ∃ v0_ : Value, e = .returned (v0_) ∧ Kd.R (Kd.int .i64) 3 w' w.heap.size (fun _ => True) v0_ r ∧ Below w.heap.size w w' := by
 have HR0 := am_ hr0
 have HC0 := am_ hc0
 clear hr0 hc0
 have HB := am_ (Below.refl w.heap.size w)
 have H : (if 0 ≤ (l0.length : Int) then (if ((l0.length : Int) : Int).toNat ≤ 35184372088832 then (laws_lpBack.l0 k l0 (List.replicate ((l0.length : Int) : Int).toNat 0) 0) else (none)) else (none)) = some r := h
 clear h
 by_cases c2 : 0 ≤ (l0.length : Int)
 ·rw [if_pos c2] at H
  have c2b0 := eq_true c2
  have c2b1 : decide (0 ≤ (l0.length : Int)) = true := decide_eq_true c2
  clear c2
  by_cases c3 : ((l0.length : Int) : Int).toNat ≤ 35184372088832
  ·rw [if_pos c3] at H
   have c3b0 := eq_true c3
   have c3b1 : decide (((l0.length : Int) : Int).toNat ≤ 35184372088832) = true := decide_eq_true c3
   clear c3
   obtain ⟨y1102, hy1102⟩ : ∃ y_ : List Int, y_ = (List.replicate ((l0.length : Int) : Int).toNat 0) := ⟨_, rfl⟩
   replace H : (laws_lpBack.l0 k l0 y1102 0) = some r := by first | (rw [hy1102]; with_reducible exact H) | (have H2_ := (Option.bind_some _ _).symm.trans H; rw [hy1102]; with_reducible exact H2_) | (have H2_ := (Option.bind_some _ _).symm.trans H; with_reducible exact H2_) | with_reducible exact H | (rw [hy1102]; exact H) | exact H
   have Ny1102 := am_ hy1102
   clear hy1102
   have H' := am_ H
   clear H
   go_enter Try.func53, Try.ntmps53
   go_wp2_with (first | ((with_reducible refine gate_dst (N := 7) rfl ?_); refine Kd.R_make (Kd.int .i64) _ 3 rfl (N := 7) rfl 22 _ _ rfl (l0.length : Int) rfl rfl Try.underlying22 (.int .i64 0) 8 info3 rfl (by decide) (by omega) 0 (ok := fun _ => True) (okp := fun _ => True) rfl (fun _ hk => hk) trivial (of_decide_eq_true z53_1) (Nat.le_trans (Nat.mul_le_mul_right _ (of_decide_eq_true z53_1 : (l0.length : Int).toNat ≤ 35184372088832)) (by omega)) (Below.refl _ _) (Nat.le_refl _) ?_; intro v1103 w4 ho5 hb hg_ hnew_; clear hg_ hnew_; (first | rw [← Ny1102.out] at ho5 | (simp only [Int.reduceToNat] at ho5; rw [← Ny1102.out] at ho5)); have n0_ := am_ (Kd.R_lower ho5 (below_size z53_2)); have n1_ := am_ (below_step z53_2 hb); clear HB; have HO1104 := n0_; have HB := n1_; clear n0_ n1_; clear hb ho5))
   go_loopg [4] k (fun kq v4 w' => ∃ (x3_1 : List Int) (x4_1 : Int), v4 = .int .i64 x4_1 ∧ Aside0 (laws_lpBack.l0 kq l0 x3_1 x4_1 = some r) ∧ Aside0 (kq ≤ k) ∧ Aside0 (Kd.R (Kd.int .i64) 3 w' w.heap.size (fun _ => True) v1103 x3_1) ∧ Aside0 (Below w.heap.size w w'))
   case atStart => exact ⟨(y1102), (0), (by first | rfl | (simp; done) | (simp [*]; done)), H', ⟨Nat.le_refl _⟩, ⟨ru HO1104.out⟩, ⟨z53_2⟩⟩
   case round =>
    clear H'
    obtain ⟨x3_1, x4_1, rfl, HA, HK1, HO_3, HB⟩ := hrel
    cases gk with
    | zero => exact absurd HA.out (by simp [laws_lpBack.l0])
    | succ k1 =>
     have H := HA.out
     clear HA
     simp only [laws_lpBack.l0] at H
     by_cases c6 : x4_1 < (l0.length : Int)
     ·rw [if_pos c6] at H
      have c6b0 : decide (x4_1 < (l0.length : Int)) = true := decide_eq_true c6
      clear c6
      by_cases c7 : 0 ≤ x4_1
      ·rw [if_pos c7] at H
       have c7b0 : decide (0 ≤ x4_1) = true := decide_eq_true c7
       clear c7
       by_cases c8 : 0 ≤ (rd l0 x4_1)
       ·rw [if_pos c8] at H
        have c8b0 : decide (0 ≤ (rd l0 x4_1)) = true := decide_eq_true c8
        clear c8
        by_cases c9 : (rd l0 x4_1) < (x3_1.length : Int)
        ·rw [if_pos c9] at H
         have c9b0 : decide ((rd l0 x4_1) < (x3_1.length : Int)) = true := decide_eq_true c9
         clear c9
         obtain ⟨y1106, hy1106⟩ : ∃ y_ : List Int, y_ = (x3_1.set ((rd l0 x4_1) : Int).toNat x4_1) := ⟨_, rfl⟩
         replace H : (laws_lpBack.l0 k1 l0 y1106 (wrap64 (x4_1 + 1))) = some r := by first | (rw [hy1106]; with_reducible exact H) | (have H2_ := (Option.bind_some _ _).symm.trans H; rw [hy1106]; with_reducible exact H2_) | (have H2_ := (Option.bind_some _ _).symm.trans H; with_reducible exact H2_) | with_reducible exact H | (rw [hy1106]; exact H) | exact H
         have Ny1106 := am_ hy1106
         clear hy1106
         have H' := am_ H
         clear H
         have p1105 : 0 ≤ (x4_1 : Int) := of_decide_eq_true z53_1
         have q1105 : x4_1 < (l0.length : Int) := of_decide_eq_true z53_1
         obtain ⟨ad1105, e1105, hx1105_0⟩ := Kd.at_int HR0.out x4_1 p1105 q1105
         cases e1105
         replace hx1105_0 := (HB.out.cell (World.block_lt_of_cell? w _ hx1105_0)).trans hx1105_0
         replace p1105 := eq_true p1105
         replace q1105 := eq_true q1105
         have p10 : 0 ≤ ((rd l0 x4_1) : Int) := of_decide_eq_true z53_1
         have q10 : ((rd l0 x4_1) : Int) < ((x3_1.length : Int) : Int) := of_decide_eq_true z53_1
         obtain ⟨go10, co10, eo10, gb10, gl10, cl10, HG10⟩ := Kd.R_form HO_3.out (by omega)
         (first | cases eo10 | (injection eo10 with ea_ en_ ec_; (first | subst ea_ | (injection ea_ with ea_; subst ea_)); subst ec_; clear en_))
         have GB10 := am_ gb10
         have GG10 := am_ HG10
         clear gb10 gl10 HG10
         obtain ⟨hx10_0, hf10_0⟩ := Kd.R_celln 0 HO_3.out ((rd l0 x4_1) : Int) p10 q10
         replace p10 := eq_true p10
         replace q10 := eq_true q10
         have HP11 := Kd.R_putg HO_3.out ((rd l0 x4_1) : Int) x4_1
         go_wp2_with (first | ((with_reducible refine gate_store (t := 3) (p := 20) rfl ?_); refine store_event (t := 3) (p := 20) (v := ?vo_w12) (w1 := (wr.setCell ⟨go10, ((rd l0 x4_1) : Int).toNat, none⟩ (.int .i64 x4_1))) ?hg ?ho ?hn ?hr ?_; (case ho => rfl); (case hg => rfl); (case hn => rfl); (case hr => first | (go_simp; done) | (go_simp; rfl)); intro w12 hw; have hg : wr.grownBy w12 (some go10) := (by rw [hw]; exact HP11.2); have hp_ : Kd.R (Kd.int .i64) 3 w12 w.heap.size (fun _ => True) (.slice (some ⟨go10, 0, none⟩) x3_1.length co10) y1106 := (by rw [hw, Ny1106.out]; exact HP11.1); clear HP11; have n0_ := am_ (hp_); have n1_ := am_ (by rw [hw]; exact below_set (HB.out) GB10.out : Below w.heap.size w w12); clear HO_3 HB; have HO_3 := n0_; have HB := n1_; clear n0_ n1_; clear hg hw hp_))
         go_roundg k1
         case measure => have := HK1.out; omega
         case rel => exact ⟨(y1106), (wrap64 (x4_1 + 1)), (by first | rfl | (simp; done) | (simp [*]; done)), H', ⟨by have := HK1.out; omega⟩, ⟨ru HO_3.out⟩, ⟨z53_2⟩⟩
        ·rw [if_neg c9] at H
         exact absurd H (by simp)
       ·rw [if_neg c8] at H
        exact absurd H (by simp)
      ·rw [if_neg c7] at H
       exact absurd H (by simp)
     ·rw [if_neg c6] at H
      have c6b0 : decide (x4_1 < (l0.length : Int)) = false := decide_eq_false c6
      clear c6
      obtain rfl := Option.some.inj H
      go_wp2
      go_ret
      exact ⟨_, by first | rfl | (simp [errW_none, errW_some] <;> rfl) | (simp [*, errW_none, errW_some] <;> rfl), ru HO_3.out, z53_2⟩
  ·rw [if_neg c3] at H
   exact absurd H (by simp)
 ·rw [if_neg c2] at H
  exact absurd H (by simp)

end Go.Proofs.Ytefkbmhkhpekjaa.PB

namespace Go.Proofs.Ytefkbmhkhpekjaa.PB
open Go.RowKit Go.Proofs.YtefkbmhkhpekjaaW.PrintWords Go.Proofs.YtefkbmhkhpekjaaW.PrintLast Go.Proofs.YtefkbmhkhpekjaaW.PrintMore
attribute [local go_sem] max2_int min2_int max_two min_two max_three min_three max_four min_four   -- for this text's walks alone
open Go.Proofs.YtefkbmhkhpekjaaMine
set_option linter.unusedVariables false
set_option linter.unusedSimpArgs false

/-! ### laws_FnTurnThreads: function 14 -/
def laws_FnTurnThreads.T8 : Bool × List (List Nat × List Nat) := (true, [([], []), ([], []), ([1], [1]), ([0, 2, 2], [0, 2]), ([3], [3]), ([4], [4]), ([4], [4]), ([], []), ([7, 5, 3, 0, 1, 2, 3, 4, 5, 7], [5, 7]), ([6, 8, 0, 1, 2, 3, 4, 5, 6, 7, 8], [6])])
def laws_FnTurnThreads.B8 : List Nat := [0, 0, 2, 7, 15, 31, 31, 0, 191, 511]
theorem laws_FnTurnThreads.tab8 : rtab .any (opsOf Try.f14 8) = laws_FnTurnThreads.T8 := by kernel_rfl
theorem laws_FnTurnThreads.bits8 : waitsOk laws_FnTurnThreads.T8.2 laws_FnTurnThreads.B8 = true := by kernel_rfl
def laws_FnTurnThreads.T9 : Bool × List (List Nat × List Nat) := (true, [([], []), ([0], [0]), ([1], [1]), ([1], [1]), ([2, 3, 1, 1], [1, 2, 3]), ([1, 4], [1, 4]), ([5, 4], [5]), ([6], [6]), ([7, 6, 6], [6, 7]), ([6], [6]), ([9, 8, 6], [6, 9]), ([8, 10, 6], [6, 8, 10]), ([6, 11], [6, 11]), ([12, 10, 0, 1, 2, 3, 4, 5, 6, 7, 8, 9, 10, 11, 12], [12])])
def laws_FnTurnThreads.B9 : List Nat := [0, 1, 3, 3, 15, 31, 63, 127, 255, 127, 1023, 2047, 4095, 8191]
theorem laws_FnTurnThreads.tab9 : rtab .any (opsOf Try.f14 9) = laws_FnTurnThreads.T9 := by kernel_rfl
theorem laws_FnTurnThreads.bits9 : waitsOk laws_FnTurnThreads.T9.2 laws_FnTurnThreads.B9 = true := by kernel_rfl
def laws_FnTurnThreads.Facts (k : Nat) (l0 : List Int) (p want : List (List S85)) (row rb : List Int) (told : Bool) (m : Int) : Prop := spec_DrawTurnThreads.f k l0 = some (p, row) ∧ spec_TurnThreads.f k p row = some (want, told) ∧ impl_TurnThreads.f k p row = some (want, told) ∧ laws_lpProg.f k want want = some true ∧ (told = true → laws_lpBack.f k row = some rb ∧ impl_TurnThreads.f k want rb = some (p, true) ∧ laws_lpProg.f k p p = some true ∧ impl_ProgReads.f k want = some m ∧ impl_ProgReads.f k p = some m)
set_option maxRecDepth 100000 in
set_option maxHeartbeats 8000000 in
theorem laws_FnTurnThreads.calls (k : Nat) (A0 : Option Addr) (c0 : Nat) (l0 : List Int) (w : World) (p want : List (List S85)) (row rb : List Int) (told : Bool) (m : Int) (hr0 : Kd.C (Kd.int .u8) w A0 l0.length l0) (hc0 : l0.length ≤ c0) (h : (l0.length : Int) > 1048576 ∨ laws_FnTurnThreads.Facts k l0 p want row rb told m) :
  Calls Try.prog 14 #[.slice A0 l0.length c0] w fun e w' => e = .returned (.bool true) ∧ Below w.heap.size w w' := by
 have C0 := am_ hr0
 have L0 := am_ hc0
 clear hr0 hc0
 by_cases hl : (l0.length : Int) > 1048576
 ·have hlb : decide (1048576 < (l0.length : Int)) = true := decide_eq_true hl
  clear h
  go_enter Try.func14, Try.ntmps14
  go_wp2_with fail
  refine bodyPost_ret (results_tmp rfl _ _ _) rfl ?_
  exact ⟨rfl, Below.refl _ _⟩
 have hlb : decide (1048576 < (l0.length : Int)) = false := decide_eq_false hl
 replace h := h.resolve_left hl
 unfold laws_FnTurnThreads.Facts at h
 obtain ⟨h1, h2, h3, h4, h5⟩ := h
 have F1 := am_ h1
 have F2 := am_ h2
 have F3 := am_ h3
 have F4 := am_ h4
 have F5 := am_ h5
 clear h1 h2 h3 h4 h5
 go_enter Try.func14, Try.ntmps14
 go_wp2_with (go_at_call 46; refine park ?_)
 refine ⟨?_⟩
 refine (spec_DrawTurnThreads.calls k _ _ l0 p row _ C0.out L0.out F1.out).mono ?_
 rintro e w1 ⟨vp, vr, rfl, hN, hR, hb⟩
 obtain ⟨Ap, cp, rfl⟩ := Kd.N_slice hN
 obtain ⟨Ar, cr, rfl⟩ := Kd.R_slice hR
 have CP1 := am_ (Kd.N_reads' hN).2.2
 have LP := am_ (Kd.N_reads' hN).2.1
 have CR1 := am_ (Kd.R_reads' hR).2.2
 have LR := am_ (Kd.R_reads' hR).2.1
 have HB1 := am_ hb
 clear hN hR hb
 have hc3 : (w1.alloc (Obj.cells #[Value.slice Ap p.length cp] 35)).cell? ⟨w1.heap.size, 0, none⟩ = some (.slice Ap p.length cp) := (blk_cell (heap_alloc_new w1 _) 0).trans rfl
 go_wp2_with (go_at_call 49; refine park ?_)
 clear hc3
 refine ⟨?_⟩
 have BP1 := am_ (heap_alloc_new w1 (Obj.cells #[Value.slice Ap p.length cp] 35))
 have CP1a := am_ (Kd.C_alloc CP1.out (Obj.cells #[Value.slice Ap p.length cp] 35))
 have CR1a := am_ (Kd.C_alloc CR1.out (Obj.cells #[Value.slice Ap p.length cp] 35))
 have HB1a := am_ (below_alloc HB1.out (Obj.cells #[Value.slice Ap p.length cp] 35))
 clear CP1 CR1 HB1
 refine (spec_TurnThreads.calls k _ _ p _ _ row want told _ CP1a.out LP.out CR1a.out LR.out F2.out).mono ?_
 rintro e w2 ⟨vw, rfl, hS, hb⟩
 obtain ⟨Aw, cw, rfl⟩ := Kd.S_slice hS
 have CW2 := am_ (Kd.S_reads' hS).2.2
 have LW := am_ (Kd.S_reads' hS).2.1
 have CP2 := am_ (Kd.C_below CP1a.out hb)
 have CR2 := am_ (Kd.C_below CR1a.out hb)
 have BP2 := am_ (blk_below BP1.out hb)
 have HB2 := am_ (below_then HB1a.out HB1a.out.size hb)
 generalize w1.heap.size = gp at *
 clear hS hb CP1a CR1a HB1a BP1
 have hc3 : (w2.alloc (Obj.cells #[Value.slice Aw want.length cw] 35)).cell? ⟨gp, 0, none⟩ = some (.slice Ap p.length cp) := (blk_cell (blk_alloc BP2.out _) 0).trans rfl
 go_wp2_with (go_at_call 47; refine park ?_)
 clear hc3
 refine ⟨?_⟩
 have BW2 := am_ (heap_alloc_new w2 (Obj.cells #[Value.slice Aw want.length cw] 35))
 have BP2a := am_ (blk_alloc BP2.out (Obj.cells #[Value.slice Aw want.length cw] 35))
 have CP2a := am_ (Kd.C_alloc CP2.out (Obj.cells #[Value.slice Aw want.length cw] 35))
 have CR2a := am_ (Kd.C_alloc CR2.out (Obj.cells #[Value.slice Aw want.length cw] 35))
 have CW2a := am_ (Kd.C_alloc CW2.out (Obj.cells #[Value.slice Aw want.length cw] 35))
 have HB2a := am_ (below_alloc HB2.out (Obj.cells #[Value.slice Aw want.length cw] 35))
 clear CP2 CR2 CW2 BP2 HB2
 refine (impl_TurnThreads.calls k _ _ p _ _ row want told _ CP2a.out LP.out CR2a.out LR.out F3.out).mono ?_
 rintro e w3 ⟨vq, rfl, hS, hb⟩
 obtain ⟨Aq, cq, rfl⟩ := Kd.S_slice hS
 have CQ3 := am_ (Kd.S_reads' hS).2.2
 have LQ := am_ (Kd.S_reads' hS).2.1
 have CP3 := am_ (Kd.C_below CP2a.out hb)
 have CR3 := am_ (Kd.C_below CR2a.out hb)
 have CW3 := am_ (Kd.C_below CW2a.out hb)
 have BP3 := am_ (blk_below BP2a.out hb)
 have BW3 := am_ (blk_below BW2.out hb)
 have HB3 := am_ (below_then HB2a.out HB2a.out.size hb)
 generalize w2.heap.size = gw at *
 clear hS hb CP2a CR2a CW2a BP2a BW2 HB2a
 have CP4 := am_ (Kd.C_alloc CP3.out (Obj.cells #[Value.slice Aq want.length cq] 35))
 have CR4 := am_ (Kd.C_alloc CR3.out (Obj.cells #[Value.slice Aq want.length cq] 35))
 have CW4 := am_ (Kd.C_alloc CW3.out (Obj.cells #[Value.slice Aq want.length cq] 35))
 have CQ4 := am_ (Kd.C_alloc CQ3.out (Obj.cells #[Value.slice Aq want.length cq] 35))
 have BP4 := am_ (blk_alloc BP3.out (Obj.cells #[Value.slice Aq want.length cq] 35))
 have BW4 := am_ (blk_alloc BW3.out (Obj.cells #[Value.slice Aq want.length cq] 35))
 have BQ4 := am_ (heap_alloc_new w3 (Obj.cells #[Value.slice Aq want.length cq] 35))
 have HB4 := am_ (below_alloc HB3.out (Obj.cells #[Value.slice Aq want.length cq] 35))
 clear CP3 CR3 CW3 CQ3 BP3 BW3 HB3
 have hcw : (w3.alloc (Obj.cells #[Value.slice Aq want.length cq] 35)).cell? ⟨gw, 0, none⟩ = some (.slice Aw want.length cw) := (blk_cell BW4.out 0).trans rfl
 have hcq : (w3.alloc (Obj.cells #[Value.slice Aq want.length cq] 35)).cell? ⟨w3.heap.size, 0, none⟩ = some (.slice Aq want.length cq) := (blk_cell BQ4.out 0).trans rfl
 cases told
 ·go_wp2_with (go_at_call 30; refine park ?_)
  refine ⟨?_⟩
  clear hcw hcq
  refine (laws_lpProg.calls k _ _ want _ _ want true _ CQ4.out LQ.out CW4.out LW.out F4.out).mono ?_
  rintro e w5 ⟨rfl, hb⟩
  have CQ5 := am_ (Kd.C_below CQ4.out hb)
  have CW5 := am_ (Kd.C_below CW4.out hb)
  have hcw : w5.cell? ⟨gw, 0, none⟩ = some (.slice Aw want.length cw) := (blk_cell (blk_below BW4.out hb) 0).trans rfl
  have hcq : w5.cell? ⟨w3.heap.size, 0, none⟩ = some (.slice Aq want.length cq) := (blk_cell (blk_below BQ4.out hb) 0).trans rfl
  have HB5 := am_ (below_then HB4.out HB4.out.size hb)
  clear hb
  go_wp2_with (go_at_call 30; refine park ?_)
  refine ⟨?_⟩
  refine (laws_lpProg.calls k _ _ want _ _ want true _ CQ5.out LQ.out CW5.out LW.out F4.out).mono ?_
  rintro e w6 ⟨rfl, hb⟩
  have HB6 := am_ (below_then HB5.out HB5.out.size hb)
  clear hb
  go_wp2_with fail
  refine bodyPost_ret (results_tmp rfl _ _ _) rfl ?_
  exact ⟨rfl, HB6.out⟩
 ·have F6 := am_ (F5.out rfl)
  clear F5
  go_wp2_with (go_at_call 30; refine park ?_)
  refine ⟨?_⟩
  clear hcw hcq
  refine (laws_lpProg.calls k _ _ want _ _ want true _ CQ4.out LQ.out CW4.out LW.out F4.out).mono ?_
  rintro e w5 ⟨rfl, hb⟩
  have CP5 := am_ (Kd.C_below CP4.out hb)
  have CR5 := am_ (Kd.C_below CR4.out hb)
  have CQ5 := am_ (Kd.C_below CQ4.out hb)
  have BP5 := am_ (blk_below BP4.out hb)
  have BQ5 := am_ (blk_below BQ4.out hb)
  have HB5 := am_ (below_then HB4.out HB4.out.size hb)
  generalize w3.heap.size = gq at *
  clear hb CP4 CR4 CQ4 CW4 BP4 BW4 BQ4 HB4
  go_wp2_with fail
  have CP6 := am_ (Kd.C_drew CP5.out)
  have CR6 := am_ (Kd.C_drew CR5.out)
  have CQ6 := am_ (Kd.C_drew CQ5.out)
  have BP6 := am_ (blk_drew BP5.out)
  have BQ6 := am_ (blk_drew BQ5.out)
  have HB6 := am_ (below_drew HB5.out)
  clear CP5 CR5 CQ5 BP5 BQ5 HB5
  refine start_ (n := 10) (S := fun w' => w'.cell? ⟨gq, 0, none⟩ = some (.slice Aq want.length cq)) (ds := []) #[false, false, false, false, false, false, false, false, false, false] (by kernel_rfl) rfl rfl ((blk_cell BQ6.out 0).trans rfl) (fun hHeld => ?_)
  refine with_tabW laws_FnTurnThreads.tab8 laws_FnTurnThreads.bits8 (fun HT_ HW_ => ?_)
  generalize w5.drew = wq at CP6 CR6 CQ6 BP6 BQ6 HB6 hHeld ⊢
  refine pure_ (i := 1) (N := some 54) (v := ?_) (a' := ?_) #[false, true, false, false, false, false, false, false, false, false] rfl rfl (any_of HT_.out (by kernel_rfl)) (fun _ _ _ h => h) (Or.inl ⟨by rfl, ?_⟩) ?_ ?_
  rotate_left
  ·intro w'
   go_simp
   with_reducible rfl
  rotate_left
  ·simp only [Act.put, List.setIfInBounds_toArray, List.set_cons_zero, List.set_cons_succ, i64_w, i32_w]
   rfl
  refine take_ (i := 0) (N := some 53) (v := ?_) (a' := ?_) #[true, true, false, false, false, false, false, false, false, false] rfl rfl (take_ofW HT_.out HW_.out (by kernel_rfl)) (fun _ _ _ h => h) (Or.inl ⟨by rfl, ?_⟩) hHeld ?_ ?_
  rotate_left
  ·intro w' s0
   have s1 := s0
   go_simp
   with_reducible rfl
  rotate_left
  ·simp only [Act.put, List.setIfInBounds_toArray, List.set_cons_zero, List.set_cons_succ, i64_w, i32_w]
   rfl
  refine join_ (σ := Value × Value × Nat) 2 #[true, true, true, true, true, true, true, true, false, false] (fun s_ => [(55, s_.1), (56, .tuple #[.agg #[s_.2.1], .bool true]), (9, .pointer (some ⟨s_.2.2, 0, none⟩)), (52, .tuple #[.agg #[s_.2.1], .bool true]), (57, .agg #[s_.2.1]), (58, .bool true)]) (fun s_ w' => (w'.cell? ⟨gq, 0, none⟩ = some (.slice Aq want.length cq)) ∧ (∃ A c, s_.2.1 = .slice A p.length c ∧ p.length ≤ c ∧ Kd.S (Kd.slice 85 k85) 82 w' wq.heap.size (fun k => k ≠ s_.2.2) (.slice A p.length c) p) ∧ Below wq.heap.size wq w' ∧ wq.heap.size ≤ s_.2.2 ∧ w'.heap[s_.2.2]? = some (Obj.cells #[Value.slice none 0 0] 35)) ?_ ?_
  rotate_left
  ·intro hCont
   refine two_ (i := 2) (j := 7) (Ni := some 55) (Nj := some 9) #[true, true, true, false, false, false, false, false, false, false] #[true, true, false, false, false, false, false, true, false, false] rfl rfl rfl rfl (two_of HT_.out (by kernel_rfl)) (by decide) (by decide) (fun K hK => ?_) (fun K hK => ?_)
   ·refine goes_ Try.func53 (by kernel_rfl) rfl #[.slice Ar row.length cr] (by rfl) rfl rfl (by (try simp only [List.map_toArray, List.map_cons, List.map_nil]); first | done | rfl) ?_
    with_reducible refine (laws_lpBack.calls k _ _ row rb _ CR6.out LR.out F6.out.1).mono ?_
    rintro e w6 ⟨vb, rfl, hR, hb⟩
    refine ⟨_, rfl, ?_⟩
    obtain ⟨Ab, cb, rfl⟩ := Kd.R_slice hR
    have CB := am_ (Kd.R_reads' hR).2.2
    have LB := am_ (Kd.R_reads' hR).2.1
    have Xw6 := am_ hb
    refine hK.out _ _ ((blk_cell (blk_below BQ6.out Xw6.out) 0).trans rfl) (fun hHeld => ?_)
    clear hK K
    refine norm_ (a' := ?_) ?_ ?_
    rotate_left
    ·show Act.put _ (some 55) _ = _
     simp only [Act.put, List.setIfInBounds_toArray, List.set_cons_zero, List.set_cons_succ, i64_w, i32_w]
     rfl
    refine two_ (i := 3) (j := 7) (Ni := some 56) (Nj := some 9) #[true, true, true, true, false, false, false, false, false, false] #[true, true, true, false, false, false, false, true, false, false] rfl rfl rfl rfl (two_of HT_.out (by kernel_rfl)) (by decide) (by decide) (fun K hK => ?_) (fun K hK => ?_)
    ·refine goes_ Try.func47 (by kernel_rfl) rfl #[.agg #[.slice Aq want.length cq], .slice Ab rb.length cb] (by rfl) rfl rfl (by (try simp only [List.map_toArray, List.map_cons, List.map_nil]); first | done | rfl) ?_
     with_reducible refine (impl_TurnThreads.calls k _ _ want _ _ rb p true _ (Kd.C_below CQ6.out Xw6.out) LQ.out CB.out LB.out F6.out.2.1).mono ?_
     rintro e w7 ⟨vx, rfl, hS, hb⟩
     refine ⟨_, rfl, ?_⟩
     obtain ⟨Ax, cx, rfl⟩ := Kd.S_slice hS
     have SX := am_ hS
     have LX := am_ (Kd.S_reads' hS).2.1
     have Xw7 := am_ (below_then Xw6.out Xw6.out.size hb)
     refine hK.out _ _ ((blk_cell (blk_below BQ6.out Xw7.out) 0).trans rfl) (fun hHeld => ?_)
     clear hK K
     refine norm_ (a' := ?_) ?_ ?_
     rotate_left
     ·show Act.put _ (some 56) _ = _
      simp only [Act.put, List.setIfInBounds_toArray, List.set_cons_zero, List.set_cons_succ, i64_w, i32_w]
      rfl
     refine pure_ (i := 4) (N := some 52) (v := ?_) (a' := ?_) #[true, true, true, true, true, false, false, false, false, false] rfl rfl (any_of HT_.out (by kernel_rfl)) (fun _ _ _ h => h) (Or.inl ⟨by rfl, ?_⟩) ?_ ?_
     rotate_left
     ·intro w'
      go_simp
      with_reducible rfl
     rotate_left
     ·simp only [Act.put, List.setIfInBounds_toArray, List.set_cons_zero, List.set_cons_succ, i64_w, i32_w]
      rfl
     refine pure_ (i := 5) (N := some 57) (v := ?_) (a' := ?_) #[true, true, true, true, true, true, false, false, false, false] rfl rfl (any_of HT_.out (by kernel_rfl)) (fun _ _ _ h => h) (Or.inl ⟨by rfl, ?_⟩) ?_ ?_
     rotate_left
     ·intro w'
      go_simp
      with_reducible rfl
     rotate_left
     ·simp only [Act.put, List.setIfInBounds_toArray, List.set_cons_zero, List.set_cons_succ, i64_w, i32_w]
      rfl
     refine pure_ (i := 6) (N := some 58) (v := ?_) (a' := ?_) #[true, true, true, true, true, true, true, false, false, false] rfl rfl (any_of HT_.out (by kernel_rfl)) (fun _ _ _ h => h) (Or.inl ⟨by rfl, ?_⟩) ?_ ?_
     rotate_left
     ·intro w'
      go_simp
      with_reducible rfl
     rotate_left
     ·simp only [Act.put, List.setIfInBounds_toArray, List.set_cons_zero, List.set_cons_succ, i64_w, i32_w]
      rfl
     refine one_ (i := 7) (N := some 9) #[true, true, true, true, true, true, true, true, false, false] rfl rfl (one_of HT_.out (by kernel_rfl)) (by decide) (fun K hK => ?_)
     refine box_step (by rfl) (N := 9) rfl (cs := #[Value.slice none 0 0]) (t := 35) ?hr ?_
     case hr => first | (go_simp; done) | (go_simp; rfl)
     intro gx hgx w8 hbx hb
     have GX := am_ (show wq.heap.size ≤ gx from by rw [hgx]; exact Xw7.out.size)
     have BX := am_ hbx
     have Xw8 := am_ (below_then Xw7.out Xw7.out.size hb)
     refine hK.out _ _ ((blk_cell (blk_below BQ6.out Xw8.out) 0).trans rfl) (fun hHeld => ?_)
     clear hK K
     refine norm_ (a' := ?_) ?_ ?_
     rotate_left
     ·show Act.put _ (some 9) _ = _
      simp only [Act.put, List.setIfInBounds_toArray, List.set_cons_zero, List.set_cons_succ, i64_w, i32_w]
      rfl
     exact hCont (Value.slice Ab rb.length cb, Value.slice Ax p.length cx, gx) w8 ⟨(blk_cell (blk_below BQ6.out Xw8.out) 0).trans rfl, ⟨Ax, cx, rfl, LX.out, Kd.S_lower (Kd.S_mono (Kd.S_below (Kd.S_bound SX.out) hb) (fun k hk => by have := hk.2.2.1; show k ≠ gx; omega)) Xw6.out.size⟩, Xw8.out, GX.out, hbx⟩
    ·refine box_step (by rfl) (N := 9) rfl (cs := #[Value.slice none 0 0]) (t := 35) ?hr ?_
     case hr => first | (go_simp; done) | (go_simp; rfl)
     intro gx hgx w7 hbx hb
     have GX := am_ (show wq.heap.size ≤ gx from by rw [hgx]; exact Xw6.out.size)
     have BX := am_ hbx
     have Xw7 := am_ (below_then Xw6.out Xw6.out.size hb)
     refine hK.out _ _ ((blk_cell (blk_below BQ6.out Xw7.out) 0).trans rfl) (fun hHeld => ?_)
     clear hK K
     refine norm_ (a' := ?_) ?_ ?_
     rotate_left
     ·show Act.put _ (some 9) _ = _
      simp only [Act.put, List.setIfInBounds_toArray, List.set_cons_zero, List.set_cons_succ, i64_w, i32_w]
      rfl
     refine one_ (i := 3) (N := some 56) #[true, true, true, true, false, false, false, true, false, false] rfl rfl (one_of HT_.out (by kernel_rfl)) (by decide) (fun K hK => ?_)
     refine goes_ Try.func47 (by kernel_rfl) rfl #[.agg #[.slice Aq want.length cq], .slice Ab rb.length cb] (by rfl) rfl rfl (by (try simp only [List.map_toArray, List.map_cons, List.map_nil]); first | done | rfl) ?_
     with_reducible refine (impl_TurnThreads.calls k _ _ want _ _ rb p true _ (Kd.C_below CQ6.out Xw7.out) LQ.out (Kd.C_below CB.out hb) LB.out F6.out.2.1).mono ?_
     rintro e w8 ⟨vx, rfl, hS, hb2⟩
     refine ⟨_, rfl, ?_⟩
     obtain ⟨Ax, cx, rfl⟩ := Kd.S_slice hS
     have SX := am_ hS
     have LX := am_ (Kd.S_reads' hS).2.1
     have Xw8 := am_ (below_then Xw7.out Xw7.out.size hb2)
     refine hK.out _ _ ((blk_cell (blk_below BQ6.out Xw8.out) 0).trans rfl) (fun hHeld => ?_)
     clear hK K
     refine norm_ (a' := ?_) ?_ ?_
     rotate_left
     ·show Act.put _ (some 56) _ = _
      simp only [Act.put, List.setIfInBounds_toArray, List.set_cons_zero, List.set_cons_succ, i64_w, i32_w]
      rfl
     refine pure_ (i := 4) (N := some 52) (v := ?_) (a' := ?_) #[true, true, true, true, true, false, false, true, false, false] rfl rfl (any_of HT_.out (by kernel_rfl)) (fun _ _ _ h => h) (Or.inl ⟨by rfl, ?_⟩) ?_ ?_
     rotate_left
     ·intro w'
      go_simp
      with_reducible rfl
     rotate_left
     ·simp only [Act.put, List.setIfInBounds_toArray, List.set_cons_zero, List.set_cons_succ, i64_w, i32_w]
      rfl
     refine pure_ (i := 5) (N := some 57) (v := ?_) (a' := ?_) #[true, true, true, true, true, true, false, true, false, false] rfl rfl (any_of HT_.out (by kernel_rfl)) (fun _ _ _ h => h) (Or.inl ⟨by rfl, ?_⟩) ?_ ?_
     rotate_left
     ·intro w'
      go_simp
      with_reducible rfl
     rotate_left
     ·simp only [Act.put, List.setIfInBounds_toArray, List.set_cons_zero, List.set_cons_succ, i64_w, i32_w]
      rfl
     refine pure_ (i := 6) (N := some 58) (v := ?_) (a' := ?_) #[true, true, true, true, true, true, true, true, false, false] rfl rfl (any_of HT_.out (by kernel_rfl)) (fun _ _ _ h => h) (Or.inl ⟨by rfl, ?_⟩) ?_ ?_
     rotate_left
     ·intro w'
      go_simp
      with_reducible rfl
     rotate_left
     ·simp only [Act.put, List.setIfInBounds_toArray, List.set_cons_zero, List.set_cons_succ, i64_w, i32_w]
      rfl
     exact hCont (Value.slice Ab rb.length cb, Value.slice Ax p.length cx, gx) w8 ⟨(blk_cell (blk_below BQ6.out Xw8.out) 0).trans rfl, ⟨Ax, cx, rfl, LX.out, Kd.S_lower (Kd.S_mono (Kd.S_bound SX.out) (fun k hk => by have := hk.2.1; have := blk_lt BX.out; show k ≠ gx; omega)) Xw7.out.size⟩, Xw8.out, GX.out, (blk_below BX.out hb2)⟩
   ·refine box_step (by rfl) (N := 9) rfl (cs := #[Value.slice none 0 0]) (t := 35) ?hr ?_
    case hr => first | (go_simp; done) | (go_simp; rfl)
    intro gx hgx w6 hbx hb
    have GX := am_ (show wq.heap.size ≤ gx from by rw [hgx]; exact Nat.le_refl _)
    have BX := am_ hbx
    have Xw6 := am_ hb
    refine hK.out _ _ ((blk_cell (blk_below BQ6.out Xw6.out) 0).trans rfl) (fun hHeld => ?_)
    clear hK K
    refine norm_ (a' := ?_) ?_ ?_
    rotate_left
    ·show Act.put _ (some 9) _ = _
     simp only [Act.put, List.setIfInBounds_toArray, List.set_cons_zero, List.set_cons_succ, i64_w, i32_w]
     rfl
    refine one_ (i := 2) (N := some 55) #[true, true, true, false, false, false, false, true, false, false] rfl rfl (one_of HT_.out (by kernel_rfl)) (by decide) (fun K hK => ?_)
    refine goes_ Try.func53 (by kernel_rfl) rfl #[.slice Ar row.length cr] (by rfl) rfl rfl (by (try simp only [List.map_toArray, List.map_cons, List.map_nil]); first | done | rfl) ?_
    with_reducible refine (laws_lpBack.calls k _ _ row rb _ (Kd.C_below CR6.out Xw6.out) LR.out F6.out.1).mono ?_
    rintro e w7 ⟨vb, rfl, hR, hb2⟩
    refine ⟨_, rfl, ?_⟩
    obtain ⟨Ab, cb, rfl⟩ := Kd.R_slice hR
    have CB := am_ (Kd.R_reads' hR).2.2
    have LB := am_ (Kd.R_reads' hR).2.1
    have Xw7 := am_ (below_then Xw6.out Xw6.out.size hb2)
    refine hK.out _ _ ((blk_cell (blk_below BQ6.out Xw7.out) 0).trans rfl) (fun hHeld => ?_)
    clear hK K
    refine norm_ (a' := ?_) ?_ ?_
    rotate_left
    ·show Act.put _ (some 55) _ = _
     simp only [Act.put, List.setIfInBounds_toArray, List.set_cons_zero, List.set_cons_succ, i64_w, i32_w]
     rfl
    refine one_ (i := 3) (N := some 56) #[true, true, true, true, false, false, false, true, false, false] rfl rfl (one_of HT_.out (by kernel_rfl)) (by decide) (fun K hK => ?_)
    refine goes_ Try.func47 (by kernel_rfl) rfl #[.agg #[.slice Aq want.length cq], .slice Ab rb.length cb] (by rfl) rfl rfl (by (try simp only [List.map_toArray, List.map_cons, List.map_nil]); first | done | rfl) ?_
    with_reducible refine (impl_TurnThreads.calls k _ _ want _ _ rb p true _ (Kd.C_below CQ6.out Xw7.out) LQ.out CB.out LB.out F6.out.2.1).mono ?_
    rintro e w8 ⟨vx, rfl, hS, hb3⟩
    refine ⟨_, rfl, ?_⟩
    obtain ⟨Ax, cx, rfl⟩ := Kd.S_slice hS
    have SX := am_ hS
    have LX := am_ (Kd.S_reads' hS).2.1
    have Xw8 := am_ (below_then Xw7.out Xw7.out.size hb3)
    refine hK.out _ _ ((blk_cell (blk_below BQ6.out Xw8.out) 0).trans rfl) (fun hHeld => ?_)
    clear hK K
    refine norm_ (a' := ?_) ?_ ?_
    rotate_left
    ·show Act.put _ (some 56) _ = _
     simp only [Act.put, List.setIfInBounds_toArray, List.set_cons_zero, List.set_cons_succ, i64_w, i32_w]
     rfl
    refine pure_ (i := 4) (N := some 52) (v := ?_) (a' := ?_) #[true, true, true, true, true, false, false, true, false, false] rfl rfl (any_of HT_.out (by kernel_rfl)) (fun _ _ _ h => h) (Or.inl ⟨by rfl, ?_⟩) ?_ ?_
    rotate_left
    ·intro w'
     go_simp
     with_reducible rfl
    rotate_left
    ·simp only [Act.put, List.setIfInBounds_toArray, List.set_cons_zero, List.set_cons_succ, i64_w, i32_w]
     rfl
    refine pure_ (i := 5) (N := some 57) (v := ?_) (a' := ?_) #[true, true, true, true, true, true, false, true, false, false] rfl rfl (any_of HT_.out (by kernel_rfl)) (fun _ _ _ h => h) (Or.inl ⟨by rfl, ?_⟩) ?_ ?_
    rotate_left
    ·intro w'
     go_simp
     with_reducible rfl
    rotate_left
    ·simp only [Act.put, List.setIfInBounds_toArray, List.set_cons_zero, List.set_cons_succ, i64_w, i32_w]
     rfl
    refine pure_ (i := 6) (N := some 58) (v := ?_) (a' := ?_) #[true, true, true, true, true, true, true, true, false, false] rfl rfl (any_of HT_.out (by kernel_rfl)) (fun _ _ _ h => h) (Or.inl ⟨by rfl, ?_⟩) ?_ ?_
    rotate_left
    ·intro w'
     go_simp
     with_reducible rfl
    rotate_left
    ·simp only [Act.put, List.setIfInBounds_toArray, List.set_cons_zero, List.set_cons_succ, i64_w, i32_w]
     rfl
    exact hCont (Value.slice Ab rb.length cb, Value.slice Ax p.length cx, gx) w8 ⟨(blk_cell (blk_below BQ6.out Xw8.out) 0).trans rfl, ⟨Ax, cx, rfl, LX.out, Kd.S_lower (Kd.S_mono (Kd.S_bound SX.out) (fun k hk => by have := hk.2.1; have := blk_lt BX.out; have := hb2.size; show k ≠ gx; omega)) Xw7.out.size⟩, Xw8.out, GX.out, (blk_below (blk_below BX.out hb2) hb3)⟩
  rintro ⟨vb, vx, gx⟩ w6 ⟨hHeld, ⟨Ax, cx, ex, lx, cxx⟩, hb, hgx, hbx⟩
  dsimp only at ex hgx hbx
  subst ex
  have SX7 := am_ cxx
  have CP8 := am_ (Kd.C_below CP6.out (below_set (g := gx) (j := 0) (v := .slice Ax p.length cx) hb hgx))
  have CQ8 := am_ (Kd.C_below CQ6.out (below_set (g := gx) (j := 0) (v := .slice Ax p.length cx) hb hgx))
  have LX := am_ lx
  have BX6 := am_ hbx
  have BP6' := am_ (blk_below BP6.out hb)
  have BQ6' := am_ (blk_below BQ6.out hb)
  have HB7 := am_ (below_then HB6.out HB6.out.size hb)
  have NP := am_ (show gp ≠ gx from by have := blk_lt BP6.out; omega)
  have NQ := am_ (show gq ≠ gx from by have := blk_lt BQ6.out; omega)
  have GW := am_ (show w.heap.size ≤ gx from by have := HB6.out.size; omega)
  clear cxx lx hbx hb hgx CP6 CQ6 CR6 BP6 BQ6 HB6
  refine norm_ (a' := ?_) ?_ ?_
  rotate_left
  ·simp only [putAll, Act.put, List.setIfInBounds_toArray, List.set_cons_zero, List.set_cons_succ]
   rfl
  refine one_ (i := 8) (N := none) #[true, true, true, true, true, true, true, true, true, false] rfl rfl (one_of HT_.out (by kernel_rfl)) (by decide) (fun K hK => ?_)
  have hs62 : w6.cell? ⟨gx, 0, none⟩ = some (.slice none 0 0) := (blk_cell BX6.out 0).trans rfl
  have hfs62 := blk_frozen BX6.out 0
  refine skip_ (w1 := ?_) (by rfl) rfl ?_ ?_
  rotate_left
  ·go_simp
   rfl
  have BX7 := am_ (blk_set BX6.out 0 (.slice Ax p.length cx))
  have BP7 := am_ (blk_far BP6'.out (p := ⟨gx, 0, none⟩) NP.out (.slice Ax p.length cx))
  have BQ7 := am_ (blk_far BQ6'.out (p := ⟨gx, 0, none⟩) NQ.out (.slice Ax p.length cx))
  have CX8 := am_ (Kd.S_reads' (Kd.S_far (p := ⟨gx, 0, none⟩) SX7.out (fun k hk => hk) (.slice Ax p.length cx))).2.2
  have HB8 := am_ (below_set (g := gx) (j := 0) (v := .slice Ax p.length cx) HB7.out GW.out)
  clear hs62 hfs62 SX7 BX6 BP6' BQ6' HB7
  refine hK.out _ _ ((blk_cell BQ7.out 0).trans rfl) (fun hHeld => ?_)
  clear hK K
  refine pure_ (i := 9) (N := some 10) (v := ?_) (a' := ?_) #[true, true, true, true, true, true, true, true, true, true] rfl rfl (any_of HT_.out (by kernel_rfl)) (fun _ _ _ h => h) (Or.inl ⟨by rfl, ?_⟩) ?_ ?_
  rotate_left
  ·intro w'
   go_simp
   with_reducible rfl
  rotate_left
  ·simp only [Act.put, List.setIfInBounds_toArray, List.set_cons_zero, List.set_cons_succ, i64_w, i32_w]
   rfl
  refine done_ (done_of HT_.out (by kernel_rfl)) ?_
  try go_wp2
  have CP9 := am_ (Kd.C_drew CP8.out)
  have CQ9 := am_ (Kd.C_drew CQ8.out)
  have CX9 := am_ (Kd.C_drew CX8.out)
  have BP9 := am_ (blk_drew BP7.out)
  have BQ9 := am_ (blk_drew BQ7.out)
  have BX9 := am_ (blk_drew BX7.out)
  have HB9 := am_ (below_drew HB8.out)
  clear CP8 CQ8 CX8 BP7 BQ7 BX7 HB8 hHeld
  refine start_ (n := 14) (S := fun w' => w'.cell? ⟨gx, 0, none⟩ = some (.slice Ax p.length cx) ∧ w'.cell? ⟨gp, 0, none⟩ = some (.slice Ap p.length cp) ∧ w'.cell? ⟨gq, 0, none⟩ = some (.slice Aq want.length cq)) (ds := []) #[false, false, false, false, false, false, false, false, false, false, false, false, false, false] (by kernel_rfl) rfl rfl ⟨(blk_cell BX9.out 0).trans rfl, (blk_cell BP9.out 0).trans rfl, (blk_cell BQ9.out 0).trans rfl⟩ (fun hHeld => ?_)
  refine with_tabW laws_FnTurnThreads.tab9 laws_FnTurnThreads.bits9 (fun HT_ HW_ => ?_)
  generalize (w6.setCell ⟨gx, 0, none⟩ (.slice Ax p.length cx)).drew = wz at CP9 CQ9 CX9 BP9 BQ9 BX9 HB9 hHeld ⊢
  refine pure_ (i := 0) (N := some 59) (v := ?_) (a' := ?_) #[true, false, false, false, false, false, false, false, false, false, false, false, false, false] rfl rfl (any_of HT_.out (by kernel_rfl)) (fun _ _ _ h => h) (Or.inl ⟨by rfl, ?_⟩) ?_ ?_
  rotate_left
  ·intro w'
   go_simp
   with_reducible rfl
  rotate_left
  ·simp only [Act.put, List.setIfInBounds_toArray, List.set_cons_zero, List.set_cons_succ, i64_w, i32_w]
   rfl
  refine pure_ (i := 1) (N := some 60) (v := ?_) (a' := ?_) #[true, true, false, false, false, false, false, false, false, false, false, false, false, false] rfl rfl (any_of HT_.out (by kernel_rfl)) (fun _ _ _ h => h) (Or.inl ⟨by rfl, ?_⟩) ?_ ?_
  rotate_left
  ·intro w'
   go_simp
   with_reducible rfl
  rotate_left
  ·simp only [Act.put, List.setIfInBounds_toArray, List.set_cons_zero, List.set_cons_succ, i64_w, i32_w]
   rfl
  refine take_ (i := 2) (N := some 61) (v := ?_) (a' := ?_) #[true, true, true, false, false, false, false, false, false, false, false, false, false, false] rfl rfl (take_ofW HT_.out HW_.out (by kernel_rfl)) (fun _ _ _ h => h) (Or.inl ⟨by rfl, ?_⟩) hHeld ?_ ?_
  rotate_left
  ·intro w' s0
   have s1 := s0.1
   go_simp
   with_reducible rfl
  rotate_left
  ·simp only [Act.put, List.setIfInBounds_toArray, List.set_cons_zero, List.set_cons_succ, i64_w, i32_w]
   rfl
  refine take_ (i := 3) (N := some 62) (v := ?_) (a' := ?_) #[true, true, true, true, false, false, false, false, false, false, false, false, false, false] rfl rfl (take_ofW HT_.out HW_.out (by kernel_rfl)) (fun _ _ _ h => h) (Or.inl ⟨by rfl, ?_⟩) hHeld ?_ ?_
  rotate_left
  ·intro w' s0
   have s1 := s0.2.1
   go_simp
   with_reducible rfl
  rotate_left
  ·simp only [Act.put, List.setIfInBounds_toArray, List.set_cons_zero, List.set_cons_succ, i64_w, i32_w]
   rfl
  refine one_ (i := 4) (N := some 63) #[true, true, true, true, true, false, false, false, false, false, false, false, false, false] rfl rfl (one_of HT_.out (by kernel_rfl)) (by decide) (fun K hK => ?_)
  refine goes_ Try.func30 (by kernel_rfl) rfl #[.agg #[.slice Ax p.length cx], .agg #[.slice Ap p.length cp]] (by rfl) rfl rfl (by (try simp only [List.map_toArray, List.map_cons, List.map_nil]); first | done | rfl) ?_
  with_reducible refine (laws_lpProg.calls k _ _ p _ _ p true _ CX9.out LX.out CP9.out LP.out F6.out.2.2.1).mono ?_
  rintro e y1 ⟨rfl, hb1⟩
  refine ⟨_, rfl, ?_⟩
  refine hK.out _ _ ⟨(blk_cell (blk_below BX9.out hb1) 0).trans rfl, (blk_cell (blk_below BP9.out hb1) 0).trans rfl, (blk_cell (blk_below BQ9.out hb1) 0).trans rfl⟩ (fun hHeld => ?_)
  clear hK K
  refine norm_ (a' := ?_) ?_ ?_
  rotate_left
  ·show Act.put _ (some 63) _ = _
   simp only [Act.put, List.setIfInBounds_toArray, List.set_cons_zero, List.set_cons_succ, i64_w, i32_w]
   rfl
  refine pure_ (i := 5) (N := some 64) (v := ?_) (a' := ?_) #[true, true, true, true, true, true, false, false, false, false, false, false, false, false] rfl rfl (any_of HT_.out (by kernel_rfl)) (fun _ _ _ h => h) (Or.inl ⟨by rfl, ?_⟩) ?_ ?_
  rotate_left
  ·intro w'
   go_simp
   with_reducible rfl
  rotate_left
  ·simp only [Act.put, List.setIfInBounds_toArray, List.set_cons_zero, List.set_cons_succ, i64_w, i32_w]
   rfl
  refine pure_ (i := 6) (N := some 65) (v := ?_) (a' := ?_) #[true, true, true, true, true, true, true, false, false, false, false, false, false, false] rfl rfl (any_of HT_.out (by kernel_rfl)) (fun _ _ _ h => h) (Or.inl ⟨by rfl, ?_⟩) ?_ ?_
  rotate_left
  ·intro w'
   go_simp
   with_reducible rfl
  rotate_left
  ·simp only [Act.put, List.setIfInBounds_toArray, List.set_cons_zero, List.set_cons_succ, i64_w, i32_w]
   rfl
  refine take_ (i := 7) (N := some 66) (v := ?_) (a' := ?_) #[true, true, true, true, true, true, true, true, false, false, false, false, false, false] rfl rfl (take_ofW HT_.out HW_.out (by kernel_rfl)) (fun _ _ _ h => h) (Or.inl ⟨by rfl, ?_⟩) hHeld ?_ ?_
  rotate_left
  ·intro w' s0
   have s1 := s0.2.2
   go_simp
   with_reducible rfl
  rotate_left
  ·simp only [Act.put, List.setIfInBounds_toArray, List.set_cons_zero, List.set_cons_succ, i64_w, i32_w]
   rfl
  refine take_ (i := 9) (N := some 68) (v := ?_) (a' := ?_) #[true, true, true, true, true, true, true, true, false, true, false, false, false, false] rfl rfl (take_ofW HT_.out HW_.out (by kernel_rfl)) (fun _ _ _ h => h) (Or.inl ⟨by rfl, ?_⟩) hHeld ?_ ?_
  rotate_left
  ·intro w' s0
   have s1 := s0.2.1
   go_simp
   with_reducible rfl
  rotate_left
  ·simp only [Act.put, List.setIfInBounds_toArray, List.set_cons_zero, List.set_cons_succ, i64_w, i32_w]
   rfl
  refine one_ (i := 8) (N := some 67) #[true, true, true, true, true, true, true, true, true, true, false, false, false, false] rfl rfl (one_of HT_.out (by kernel_rfl)) (by decide) (fun K hK => ?_)
  refine goes_ Try.func40 (by kernel_rfl) rfl #[.agg #[.slice Aq want.length cq]] (by rfl) rfl rfl (by (try simp only [List.map_toArray, List.map_cons, List.map_nil]); first | done | rfl) ?_
  with_reducible refine (impl_ProgReads.calls k _ _ want m _ (Kd.C_below CQ9.out hb1) LQ.out F6.out.2.2.2.1).mono ?_
  rintro e y2 ⟨rfl, hb⟩
  have hb2 := below_then hb1 hb1.size hb
  clear hb
  refine ⟨_, rfl, ?_⟩
  refine hK.out _ _ ⟨(blk_cell (blk_below BX9.out hb2) 0).trans rfl, (blk_cell (blk_below BP9.out hb2) 0).trans rfl, (blk_cell (blk_below BQ9.out hb2) 0).trans rfl⟩ (fun hHeld => ?_)
  clear hK K
  refine norm_ (a' := ?_) ?_ ?_
  rotate_left
  ·show Act.put _ (some 67) _ = _
   simp only [Act.put, List.setIfInBounds_toArray, List.set_cons_zero, List.set_cons_succ, i64_w, i32_w]
   rfl
  refine one_ (i := 10) (N := some 69) #[true, true, true, true, true, true, true, true, true, true, true, false, false, false] rfl rfl (one_of HT_.out (by kernel_rfl)) (by decide) (fun K hK => ?_)
  refine goes_ Try.func40 (by kernel_rfl) rfl #[.agg #[.slice Ap p.length cp]] (by rfl) rfl rfl (by (try simp only [List.map_toArray, List.map_cons, List.map_nil]); first | done | rfl) ?_
  with_reducible refine (impl_ProgReads.calls k _ _ p m _ (Kd.C_below CP9.out hb2) LP.out F6.out.2.2.2.2).mono ?_
  rintro e y3 ⟨rfl, hb⟩
  have hb3 := below_then hb2 hb2.size hb
  clear hb
  refine ⟨_, rfl, ?_⟩
  refine hK.out _ _ ⟨(blk_cell (blk_below BX9.out hb3) 0).trans rfl, (blk_cell (blk_below BP9.out hb3) 0).trans rfl, (blk_cell (blk_below BQ9.out hb3) 0).trans rfl⟩ (fun hHeld => ?_)
  clear hK K
  refine norm_ (a' := ?_) ?_ ?_
  rotate_left
  ·show Act.put _ (some 69) _ = _
   simp only [Act.put, List.setIfInBounds_toArray, List.set_cons_zero, List.set_cons_succ, i64_w, i32_w]
   rfl
  have hmm : ((m : Int) == m) = true := by simp
  refine pure_ (i := 11) (N := some 70) (v := ?_) (a' := ?_) #[true, true, true, true, true, true, true, true, true, true, true, true, false, false] rfl rfl (any_of HT_.out (by kernel_rfl)) (fun _ _ _ h => h) (Or.inl ⟨by rfl, ?_⟩) ?_ ?_
  rotate_left
  ·intro w'
   go_simp
   with_reducible rfl
  rotate_left
  ·simp only [Act.put, List.setIfInBounds_toArray, List.set_cons_zero, List.set_cons_succ, i64_w, i32_w]
   rfl
  refine pure_ (i := 12) (N := some 71) (v := ?_) (a' := ?_) #[true, true, true, true, true, true, true, true, true, true, true, true, true, false] rfl rfl (any_of HT_.out (by kernel_rfl)) (fun _ _ _ h => h) (Or.inl ⟨by rfl, ?_⟩) ?_ ?_
  rotate_left
  ·intro w'
   go_simp
   with_reducible rfl
  rotate_left
  ·simp only [Act.put, List.setIfInBounds_toArray, List.set_cons_zero, List.set_cons_succ, i64_w, i32_w]
   rfl
  refine pure_ (i := 13) (N := some 2) (v := ?_) (a' := ?_) #[true, true, true, true, true, true, true, true, true, true, true, true, true, true] rfl rfl (any_of HT_.out (by kernel_rfl)) (fun _ _ _ h => h) (Or.inl ⟨by rfl, ?_⟩) ?_ ?_
  rotate_left
  ·intro w'
   go_simp
   with_reducible rfl
  rotate_left
  ·simp only [Act.put, List.setIfInBounds_toArray, List.set_cons_zero, List.set_cons_succ, i64_w, i32_w]
   rfl
  refine done_ (done_of HT_.out (by kernel_rfl)) ?_
  try go_wp2
  refine bodyPost_ret (results_tmp rfl _ _ _) rfl ?_
  exact ⟨rfl, below_then HB9.out HB9.out.size hb3⟩
def laws_FnTurnThreads.Pure : Prop := ∀ (l0 : List Int), l0.length ≤ maxLen → l0.length * 1 ≤ 140737488351232 → (∀ x ∈ l0, (Lit.int .u8 x).wf = true) → ∃ k p want row rb told m, (l0.length : Int) > 1048576 ∨ laws_FnTurnThreads.Facts k l0 p want row rb told m
theorem laws_FnTurnThreads.walk (P : laws_FnTurnThreads.Pure) (a0 : Option Addr) (len0 cap0 : Nat) (z0 : List Int) (w : World) (w0 : (a0 = none ∧ len0 = 0 ∧ cap0 = 0 ∧ z0 = []) ∨ ∃ x, a0 = some x ∧ len0 ≤ cap0 ∧ cap0 ≤ maxLen ∧ z0.length = cap0 ∧ (∀ i, i < z0.length → w.cell? (x.add i) = some (.int .u8 (z0.getD i 0))) ∧ ∀ n ∈ z0, (Lit.int .u8 n).wf = true) (y0 : len0 * 1 ≤ 140737488351232) :
  Calls Try.prog 14 #[.slice a0 len0 cap0] w fun e w' => e = .returned (.bool true) ∧ Below w.heap.size w w' := by
 obtain ⟨l0, rfl, hr0, hm0, hw0, hc0⟩ := ReadsInt.ofRowC w0
 obtain ⟨k, p, want, row, rb, told, m, h⟩ := P l0 hm0 y0 hw0
 refine (laws_FnTurnThreads.calls k _ _ l0 w p want row rb told m (Kd.C_of_reads (d := (0 : Int)) (h1 := fun _ => rfl) hr0) hc0 h).mono ?_
 rintro e w' ⟨rfl, hd⟩
 exact ⟨rfl, hd⟩


end Go.Proofs.Ytefkbmhkhpekjaa.PB

/- What the laws share, part 8: PBx82 PBx15 PBx17 PBx33 PBx34 PBx19 PBx20 PBx9000 PBx43 PBx76 PBx91 PBx25. -/
import Derived.Test.YtmkchdlkpbnldaaGreatDoorG4
import Derived.Test.YtmkchdlkpbnldaaGreatDoorG5
namespace Go.Proofs.YtmkchdlkpbnldaaGreatDoor.PB
open Go.RowKit Go.Proofs.YtmkchdlkpbnldaaGreatDoorW.PrintWords Go.Proofs.YtmkchdlkpbnldaaGreatDoorW.PrintLast Go.Proofs.YtmkchdlkpbnldaaGreatDoorW.PrintMore
attribute [local go_sem] max2_int min2_int max_two min_two max_three min_three max_four min_four
open Go.Proofs.YtmkchdlkpbnldaaGreatDoorMine
set_option linter.unusedVariables false
set_option linter.unusedSimpArgs false
theorem z82_1 {p : Prop} (h : p := by first | rfl | (simp; done) | (simp [*]; done)) : p := h
theorem z82_2 {p : Prop} (h : p := by first | (with_reducible assumption) | assumption) : p := h
theorem z82_3 {p : Prop} (h : p := by repeat (first | exact Drawn0.refl _ | apply Drawn0.step)) : p := h
mutual
def spec_l2Comp.l0 : Nat → List Int → List Int → Int → Option (Int)
  | 0, _, _, _ => none
  | k + 1, x0, x1, x5 => if x5 < (x0.length : Int) then (spec_l2Comp.j1 k x0 x1 x5 (decide (x5 < (x1.length : Int)))) else (spec_l2Comp.j1 k x0 x1 x5 false)
def spec_l2Comp.j1 : Nat → List Int → List Int → Int → Bool → Option (Int)
  | 0, _, _, _, _ => none
  | k + 1, x0, x1, x5, x15 => if x15 = true then (if 0 ≤ x5 then (if x5 < (x0.length : Int) then (if x5 < (x1.length : Int) then (if (rd x0 x5) < (rd x1 x5) then (some (-1)) else (if (rd x0 x5) > (rd x1 x5) then (some 1) else (spec_l2Comp.l0 k x0 x1 (wrap64 (x5 + 1))))) else (none)) else (none)) else (none)) else (if (x0.length : Int) < (x1.length : Int) then (some (-1)) else (if (x0.length : Int) > (x1.length : Int) then (some 1) else (some 0)))
end
def spec_l2Comp.f (k : Nat) (l0 : List Int) (l1 : List Int) : Option (Int) := spec_l2Comp.l0 k l0 l1 0
set_option maxHeartbeats 8000000 in
set_option maxRecDepth 100000 in
theorem spec_l2Comp.calls (k : Nat) (A0 : Option Addr) (c0 : Nat) (l0 : List Int) (A1 : Option Addr) (c1 : Nat) (l1 : List Int) (r : Int) (w : World) (hr0 : Kd.C (Kd.int .i64) w A0 l0.length l0) (hc0 : l0.length ≤ c0) (hr1 : Kd.C (Kd.int .i64) w A1 l1.length l1) (hc1 : l1.length ≤ c1) (h : spec_l2Comp.f k l0 l1 = some r) :
  Calls Tryz.prog 82 #[.slice A0 l0.length c0, .slice A1 l1.length c1] w fun e w' => e = .returned (.int .i64 r) ∧ Drawn0 w w' := by
 have HR0 := am_ hr0; have HC0 := am_ hc0; clear hr0 hc0; have HR1 := am_ hr1; have HC1 := am_ hc1; clear hr1 hc1; have H : (spec_l2Comp.l0 k l0 l1 0) = some r := h; clear h; have H' := am_ H; clear H; go_enter Tryz.func82, Tryz.ntmps82; go_wp2; repeat (go_quiet (fail); try go_wp2)
 go_loopg [5] k (fun kq v5 w' => ∃ (x5_1 : Int), v5 = .int .i64 x5_1 ∧ Aside0 (spec_l2Comp.l0 kq l0 l1 x5_1 = some r) ∧ Aside0 (kq ≤ k) ∧ Drawn0 w w')
 case atStart => exact ⟨(0), z82_1, H', ⟨Nat.le_refl _⟩, z82_3⟩
 case round =>
  clear H'; obtain ⟨x5_1, rfl, HA, HK1, ⟨m1, rfl⟩⟩ := hrel
  cases gk with
  | zero => exact absurd HA.out (by simp [spec_l2Comp.l0])
  | succ k1 =>
   have H := HA.out; clear HA; simp only [spec_l2Comp.l0] at H; have HC3 := am_ H; clear H; go_upto_region 2 with (fail)
   repeat (go_quiet (fail); go_upto_region 2 with (fail))
   go_cut [15] (fun v15 wc => ∃ (kq : Nat) (x15_2 : Bool), v15 = .bool x15_2 ∧ Aside0 (spec_l2Comp.j1 kq l0 l1 x5_1 x15_2 = some r) ∧ Aside0 (kq ≤ k1) ∧ Drawn0 w wc)
   case first =>
    have H := HC3.out; clear HC3; by_cases c4 : x5_1 < (l0.length : Int)
    ·rw [if_pos c4] at H; have c4b0 := decide_eq_true c4; clear c4; (first | rw [c4b0] | (simp only [i64_w, i32_w]; rw [c4b0]) | skip); have H' := am_ H; clear H; go_wp2; repeat (go_quiet (fail); try go_wp2)
     go_meet
     case rel => exact ⟨_, (decide (x5_1 < (l1.length : Int))), z82_1, H', ⟨by have := HK1.out; first | omega | exact Nat.le_refl _⟩, z82_3⟩
    rw [if_neg c4] at H; have c4b0 := decide_eq_false c4; clear c4; (first | rw [c4b0] | (simp only [i64_w, i32_w]; rw [c4b0]) | skip); have H' := am_ H; clear H; go_wp2; repeat (go_quiet (fail); try go_wp2)
    go_meet
    case rel => exact ⟨_, (false), z82_1, H', ⟨by have := HK1.out; first | omega | exact Nat.le_refl _⟩, z82_3⟩
   case rest =>
    clear HC3; obtain ⟨kq, x15_2, rfl, HA, HJ2, ⟨mc2, rfl⟩⟩ := hcut
    cases kq with
    | zero => exact absurd HA.out (by simp [spec_l2Comp.j1])
    | succ kj2 =>
     have H := HA.out; clear HA; simp only [spec_l2Comp.j1] at H; by_cases c5 : x15_2 = true
     ·subst c5; rw [if_pos rfl] at H; by_cases c6 : 0 ≤ x5_1
      ·rw [if_pos c6] at H; have c6b0 := decide_eq_true c6; clear c6; by_cases c7 : x5_1 < (l0.length : Int)
       ·rw [if_pos c7] at H; have c7b0 := decide_eq_true c7; clear c7; by_cases c8 : x5_1 < (l1.length : Int)
        ·rw [if_pos c8] at H; have c8b0 := decide_eq_true c8; clear c8; by_cases c9 : (rd l0 x5_1) < (rd l1 x5_1)
         ·rw [if_pos c9] at H; have c9b0 := decide_eq_true c9; clear c9; obtain rfl := Option.some.inj H; have p732 : 0 ≤ (x5_1 : Int) := of_decide_eq_true z82_2; have q732 : x5_1 < (l0.length : Int) := of_decide_eq_true z82_2; obtain ⟨ad732, e732, hx732_0⟩ := Kd.at_int HR0.out x5_1 p732 q732; cases e732; replace p732 := eq_true p732; replace q732 := eq_true q732; have p733 : 0 ≤ (x5_1 : Int) := of_decide_eq_true z82_2; have q733 : x5_1 < (l1.length : Int) := of_decide_eq_true z82_2; obtain ⟨ad733, e733, hx733_0⟩ := Kd.at_int HR1.out x5_1 p733 q733; cases e733; replace p733 := eq_true p733; replace q733 := eq_true q733; go_wp2; repeat (go_quiet (fail); try go_wp2)
          go_ret; exact ⟨z82_1, z82_3⟩
         rw [if_neg c9] at H; have c9b0 := decide_eq_false c9; clear c9; by_cases c10 : (rd l0 x5_1) > (rd l1 x5_1)
         ·rw [if_pos c10] at H; have c10b0 := decide_eq_true c10; clear c10; obtain rfl := Option.some.inj H; have p732 : 0 ≤ (x5_1 : Int) := of_decide_eq_true z82_2; have q732 : x5_1 < (l0.length : Int) := of_decide_eq_true z82_2; obtain ⟨ad732, e732, hx732_0⟩ := Kd.at_int HR0.out x5_1 p732 q732; cases e732; replace p732 := eq_true p732; replace q732 := eq_true q732; have p733 : 0 ≤ (x5_1 : Int) := of_decide_eq_true z82_2; have q733 : x5_1 < (l1.length : Int) := of_decide_eq_true z82_2; obtain ⟨ad733, e733, hx733_0⟩ := Kd.at_int HR1.out x5_1 p733 q733; cases e733; replace p733 := eq_true p733; replace q733 := eq_true q733; have p734 : 0 ≤ (x5_1 : Int) := of_decide_eq_true z82_2; have q734 : x5_1 < (l0.length : Int) := of_decide_eq_true z82_2; obtain ⟨ad734, e734, hx734_0⟩ := Kd.at_int HR0.out x5_1 p734 q734; obtain rfl : ad732 = ad734 := (by injection e734); replace p734 := eq_true p734; replace q734 := eq_true q734; have p735 : 0 ≤ (x5_1 : Int) := of_decide_eq_true z82_2; have q735 : x5_1 < (l1.length : Int) := of_decide_eq_true z82_2; obtain ⟨ad735, e735, hx735_0⟩ := Kd.at_int HR1.out x5_1 p735 q735; obtain rfl : ad733 = ad735 := (by injection e735); replace p735 := eq_true p735; replace q735 := eq_true q735; go_wp2; repeat (go_quiet (fail); try go_wp2)
          go_ret; exact ⟨z82_1, z82_3⟩
         rw [if_neg c10] at H; have c10b0 := decide_eq_false c10; clear c10; have H' := am_ H; clear H; have p732 : 0 ≤ (x5_1 : Int) := of_decide_eq_true z82_2; have q732 : x5_1 < (l0.length : Int) := of_decide_eq_true z82_2; obtain ⟨ad732, e732, hx732_0⟩ := Kd.at_int HR0.out x5_1 p732 q732; cases e732; replace p732 := eq_true p732; replace q732 := eq_true q732; have p733 : 0 ≤ (x5_1 : Int) := of_decide_eq_true z82_2; have q733 : x5_1 < (l1.length : Int) := of_decide_eq_true z82_2; obtain ⟨ad733, e733, hx733_0⟩ := Kd.at_int HR1.out x5_1 p733 q733; cases e733; replace p733 := eq_true p733; replace q733 := eq_true q733; have p734 : 0 ≤ (x5_1 : Int) := of_decide_eq_true z82_2; have q734 : x5_1 < (l0.length : Int) := of_decide_eq_true z82_2; obtain ⟨ad734, e734, hx734_0⟩ := Kd.at_int HR0.out x5_1 p734 q734; obtain rfl : ad732 = ad734 := (by injection e734); replace p734 := eq_true p734; replace q734 := eq_true q734; have p735 : 0 ≤ (x5_1 : Int) := of_decide_eq_true z82_2; have q735 : x5_1 < (l1.length : Int) := of_decide_eq_true z82_2; obtain ⟨ad735, e735, hx735_0⟩ := Kd.at_int HR1.out x5_1 p735 q735; obtain rfl : ad733 = ad735 := (by injection e735); replace p735 := eq_true p735; replace q735 := eq_true q735; go_wp2; repeat (go_quiet (fail); try go_wp2)
         go_roundg kj2
         case measure => have := HK1.out; have := HJ2.out; omega
         case rel => exact ⟨(wrap64 (x5_1 + 1)), z82_1, H', ⟨by have := HK1.out; have := HJ2.out; omega⟩, z82_3⟩
        rw [if_neg c8] at H; exact absurd H (by simp)
       rw [if_neg c7] at H; exact absurd H (by simp)
      rw [if_neg c6] at H; exact absurd H (by simp)
     replace c5 := Bool.eq_false_iff.mpr c5; subst c5; rw [if_neg Bool.false_ne_true] at H; by_cases c11 : (l0.length : Int) < (l1.length : Int)
     ·rw [if_pos c11] at H; have c11b0 := decide_eq_true c11; have c11b1 : decide (l0.length < l1.length) = true := decide_eq_true (Int.ofNat_lt.mp c11); clear c11; obtain rfl := Option.some.inj H; go_wp2; repeat (go_quiet (fail); try go_wp2)
      go_ret; exact ⟨z82_1, z82_3⟩
     rw [if_neg c11] at H; have c11b0 := decide_eq_false c11; have c11b1 : decide (l0.length < l1.length) = false := decide_eq_false (fun h => c11 (Int.ofNat_lt.mpr h)); clear c11; by_cases c12 : (l0.length : Int) > (l1.length : Int)
     ·rw [if_pos c12] at H; have c12b0 := decide_eq_true c12; have c12b1 : decide (l1.length < l0.length) = true := decide_eq_true (Int.ofNat_lt.mp c12); clear c12; obtain rfl := Option.some.inj H; go_wp2; repeat (go_quiet (fail); try go_wp2)
      go_ret; exact ⟨z82_1, z82_3⟩
     rw [if_neg c12] at H; have c12b0 := decide_eq_false c12; have c12b1 : decide (l1.length < l0.length) = false := decide_eq_false (fun h => c12 (Int.ofNat_lt.mpr h)); clear c12; obtain rfl := Option.some.inj H; go_wp2; repeat (go_quiet (fail); try go_wp2)
     go_ret; exact ⟨z82_1, z82_3⟩
end Go.Proofs.YtmkchdlkpbnldaaGreatDoor.PB
namespace Go.Proofs.YtmkchdlkpbnldaaGreatDoor.PB
open Go.RowKit Go.Proofs.YtmkchdlkpbnldaaGreatDoorW.PrintWords Go.Proofs.YtmkchdlkpbnldaaGreatDoorW.PrintLast Go.Proofs.YtmkchdlkpbnldaaGreatDoorW.PrintMore
attribute [local go_sem] max2_int min2_int max_two min_two max_three min_three max_four min_four
open Go.Proofs.YtmkchdlkpbnldaaGreatDoorMine
set_option linter.unusedVariables false
set_option linter.unusedSimpArgs false
def IsS76 (w0 W : World) (g : Nat) (f0 : List Int) (f1 : Int) : Prop := ∃ A0 c0, W.heap[g]? = some (.cells #[.slice A0 f0.length c0, .int .i64 f1] 76 (0, 0)) ∧ w0.heap.size ≤ g ∧ Kd.C (Kd.int .u8) w0 A0 f0.length f0
theorem IsS76.grown {w0 W : World} {g : Nat} {f0 : List Int} {f1 : Int} {W1 : World} {row : Option Nat} (h : IsS76 w0 W g f0 f1) (hw : W.grownBy W1 row) (hne : some g ≠ row) : IsS76 w0 W1 g f0 f1 := by
  obtain ⟨A0, c0, hb, hg, hr0⟩ := h; exact ⟨A0, c0, blk_grown hb hw hne, hg, hr0⟩
theorem IsS76.kept {w0 W : World} {g : Nat} {f0 : List Int} {f1 : Int} {W1 : World} {S : Nat → Prop} (h : IsS76 w0 W g f0 f1) (hk : Kept W W1 S) (hne : ¬ S g) : IsS76 w0 W1 g f0 f1 := by
  obtain ⟨A0, c0, hb, hg, hr0⟩ := h; exact ⟨A0, c0, blk_kept hb hk hne, hg, hr0⟩
theorem IsS76.below {w0 W : World} {g : Nat} {f0 : List Int} {f1 : Int} {W1 : World} (h : IsS76 w0 W g f0 f1) (hw : Below W.heap.size W W1) : IsS76 w0 W1 g f0 f1 := h.grown (grown_of_below hw none) (by simp)
theorem IsS76.alloc {w0 W : World} {g : Nat} {f0 : List Int} {f1 : Int} (h : IsS76 w0 W g f0 f1) (o : Obj) : IsS76 w0 (W.alloc o) g f0 f1 := h.below (below_alloc (Below.refl _ _) o)
theorem IsS76.drewN {w0 W : World} {g : Nat} {f0 : List Int} {f1 : Int} (h : IsS76 w0 W g f0 f1) (m : Nat) : IsS76 w0 (W.drewN m) g f0 f1 := h
theorem IsS76.drew {w0 W : World} {g : Nat} {f0 : List Int} {f1 : Int} (h : IsS76 w0 W g f0 f1) : IsS76 w0 W.drew g f0 f1 := h
theorem IsS76.at_ {w0 W : World} {g : Nat} {f0 : List Int} {f1 : Int} {w' : World} {m : Nat} (hq : W.drewN m = w') (h : IsS76 w0 W g f0 f1) : IsS76 w0 w' g f0 f1 := by subst hq; exact IsS76.drewN h m
theorem IsS76.apart {w0 W : World} {g : Nat} {f0 : List Int} {f1 : Int} {α : Type} {d : Kd α} {e : Nat} {base : Nat} {ok : Nat → Prop} {v : Value} {xs : List α} (h : IsS76 w0 W g f0 f1) (ho : d.R e W base ok v xs) (ht : ∀ q, q ∈ e :: d.E → q ≠ 76) : d.R e W base (fun k => ok k ∧ k ≠ g) v xs := by
  obtain ⟨A0, c0, hb, hg, hr0⟩ := h; exact Kd.R_types ho hb ht
theorem IsS76.own_ne {w0 W : World} {g : Nat} {f0 : List Int} {f1 : Int} {α : Type} {d : Kd α} {e : Nat} {base : Nat} {ok : Nat → Prop} {v : Value} {xs : List α} (h : IsS76 w0 W g f0 f1) (ho : d.R e W base ok v xs) (ht : e ≠ 76) : some g ≠ v.ownBlock := by
  obtain ⟨A0, c0, hb, hg, hr0⟩ := h; exact Kd.R_ne ho hb ht
theorem IsS76.lt {w0 W : World} {g : Nat} {f0 : List Int} {f1 : Int} (h : IsS76 w0 W g f0 f1) : g < W.heap.size := by
  obtain ⟨A0, c0, hb, hg, hr0⟩ := h; exact blk_lt hb
theorem IsS76.ge {w0 W : World} {g : Nat} {f0 : List Int} {f1 : Int} (h : IsS76 w0 W g f0 f1) : w0.heap.size ≤ g := by
  obtain ⟨A0, c0, hb, hg, hr0⟩ := h; exact hg
theorem IsS76.far {w0 W : World} {g : Nat} {f0 : List Int} {f1 : Int} {p : Addr} (h : IsS76 w0 W g f0 f1) (hne : g ≠ p.block) (u : Value) : IsS76 w0 (W.setCell p u) g f0 f1 := by
  obtain ⟨A0, c0, hb, hg, hr0⟩ := h; exact ⟨A0, c0, blk_far hb hne u, hg, hr0⟩
theorem cellS76_0 {W : World} {g : Nat} {A0 : Option Addr} {c0 : Nat} {f0 : List Int} {f1 : Int} (h : W.heap[g]? = some (.cells #[.slice A0 f0.length c0, .int .i64 f1] 76 (0, 0))) : W.cell? ⟨g, 0, none⟩ = some (.slice A0 f0.length c0) := (blk_cell h 0).trans rfl
theorem cellS76_1 {W : World} {g : Nat} {A0 : Option Addr} {c0 : Nat} {f0 : List Int} {f1 : Int} (h : W.heap[g]? = some (.cells #[.slice A0 f0.length c0, .int .i64 f1] 76 (0, 0))) : W.cell? ⟨g, 1, none⟩ = some (.int .i64 f1) := (blk_cell h 1).trans rfl
theorem IsS76.set_1 {w0 W : World} {g : Nat} {f0 : List Int} {f1 : Int} (h : IsS76 w0 W g f0 f1) (x : Int) : IsS76 w0 (W.setCell ⟨g, 1, none⟩ (.int .i64 x)) g f0 x := by
  obtain ⟨A0, c0, hb, hg, hr0⟩ := h; exact ⟨A0, c0, by simpa using blk_set hb 1 (.int .i64 x), hg, hr0⟩
theorem IsS76.new (w0 W : World) (A0 : Option Addr) (c0 : Nat) (f0 : List Int) (f1 : Int) (hB : Below w0.heap.size w0 W) (hr0 : Kd.C (Kd.int .u8) w0 A0 f0.length f0) : IsS76 w0 (W.alloc (.cells #[.slice A0 f0.length c0, .int .i64 f1] 76)) W.heap.size f0 f1 := ⟨A0, c0, by simpa using heap_alloc_new W _, hB.size, hr0⟩
theorem z15_2 {p : Prop} (h : p := by repeat (first | (with_reducible first | exact HBW.out | apply below_alloc | apply pw_below_drewN | apply below_drew1) | exact HBW.out)) : p := h
def spec_l6Open.f (l0 : List Int) : Option (List Int × Int) := if (l0.length : Int) > 2000 then (if 2000 ≤ (l0.length : Int) then (some (l0.take 2000, 0)) else (none)) else (some (l0, 0))
set_option maxHeartbeats 8000000 in
set_option maxRecDepth 100000 in
theorem spec_l6Open.calls (A0 : Option Addr) (c0 : Nat) (l0 : List Int) (r1 : List Int) (r2 : Int) (w0 w : World) (hB : Below w0.heap.size w0 w) (hr0 : Kd.C (Kd.int .u8) w0 A0 l0.length l0) (hc0 : l0.length ≤ c0) (h : spec_l6Open.f l0 = some (r1, r2)) :
  Calls Tryz.prog 15 #[.slice A0 l0.length c0] w fun e w' => ∃ g_ : Nat, e = .returned (.pointer (some ⟨g_, 0, none⟩)) ∧ IsS76 w0 w' g_ r1 r2 ∧ Below w0.heap.size w0 w' ∧ Below w.heap.size w w' := by
 have hu76 := Tryz.underlying76; have HR0 := am_ hr0; have HC0 := am_ hc0; clear hr0 hc0; have HBW := am_ (Below.refl w.heap.size w); have HW0 := am_ hB.size; have HB := am_ hB; clear hB; have H : (if (l0.length : Int) > 2000 then (if 2000 ≤ (l0.length : Int) then (some (l0.take 2000, 0)) else (none)) else (some (l0, 0))) = some (r1, r2) := h; clear h; by_cases c2 : (l0.length : Int) > 2000
 ·rw [if_pos c2] at H; have c2b0 := decide_eq_true c2; have c2b1 : decide (2000 < l0.length) = true := decide_eq_true (by omega); clear c2; by_cases c3 : 2000 ≤ (l0.length : Int)
  ·rw [if_pos c3] at H; have c3b0 := eq_true c3; have c3b1 := decide_eq_true c3; clear c3; simp only [Option.some.injEq, Prod.mk.injEq] at H; obtain ⟨rfl, rfl⟩ := H; obtain ⟨i04, hi04, _, hsz4, _⟩ := info_parts info5; obtain ⟨hcut4, hA4, hC4⟩ := print_take_of (P := Tryz.prog) (Value.int .u8) 0 22 5 .i64 Tryz.underlying22 hi04 hsz4 A0 c0 l0 2000 (by omega) (of_decide_eq_true (by first | (with_reducible assumption) | assumption)) HC0.out; have HR175 := am_ (Kd.C_of_reads (h1 := fun _ => rfl) (hA4 _ (Kd.reads_of_C HR0.out))); have HC175 := am_ hC4; clear hA4 hC4 hi04 hsz4; go_enter Tryz.func15, Tryz.ntmps15; go_wp2_with (first | ((with_reducible refine gd 10 ?_); refine boxQ 10 #[.slice A0 (l0.take 2000).length c0, .int .i64 0] 76 ?_; intro gb176 hg w5 hbox hb; have BK176 := am_ (hbox); have GW176 := am_ (by rw [hg]; exact (below_size z15_2) : w.heap.size ≤ gb176); have GE176 := am_ (Nat.le_trans HW0.out (by rw [hg]; exact (below_size z15_2) : w.heap.size ≤ gb176) : w0.heap.size ≤ gb176); replace HBW := am_ (below_step HBW.out hb); replace HB := hs hb; clear hb hbox hg))
   go_ret; exact ⟨_, rfl, (show IsS76 w0 _ gb176 (l0.take 2000) 0 from ⟨_, _, bu BK176.out, GE176.out, HR175.out⟩), by repeat (first | (with_reducible first | exact HB.out | apply below_alloc | apply pw_below_drewN | apply below_drew1 | refine below_set ?_ GE176.out) | exact HB.out), by repeat (first | (with_reducible first | exact HBW.out | apply below_alloc | apply pw_below_drewN | apply below_drew1 | refine below_set ?_ GW176.out) | exact HBW.out)⟩
  rw [if_neg c3] at H; exact absurd H (by simp)
 rw [if_neg c2] at H; have c2b0 := decide_eq_false c2; have c2b1 : decide (2000 < l0.length) = false := decide_eq_false (by omega); clear c2; simp only [Option.some.injEq, Prod.mk.injEq] at H; obtain ⟨rfl, rfl⟩ := H; go_enter Tryz.func15, Tryz.ntmps15; go_wp2_with (first | ((with_reducible refine gd 10 ?_); refine boxQ 10 #[.slice A0 l0.length c0, .int .i64 0] 76 ?_; intro gb177 hg w6 hbox hb; have BK177 := am_ (hbox); have GW177 := am_ (by rw [hg]; exact (below_size z15_2) : w.heap.size ≤ gb177); have GE177 := am_ (Nat.le_trans HW0.out (by rw [hg]; exact (below_size z15_2) : w.heap.size ≤ gb177) : w0.heap.size ≤ gb177); replace HBW := am_ (below_step HBW.out hb); replace HB := hs hb; clear hb hbox hg))
 go_ret; exact ⟨_, rfl, (show IsS76 w0 _ gb177 l0 0 from ⟨_, _, bu BK177.out, GE177.out, HR0.out⟩), by repeat (first | (with_reducible first | exact HB.out | apply below_alloc | apply pw_below_drewN | apply below_drew1 | refine below_set ?_ GE177.out) | exact HB.out), by repeat (first | (with_reducible first | exact HBW.out | apply below_alloc | apply pw_below_drewN | apply below_drew1 | refine below_set ?_ GW177.out) | exact HBW.out)⟩
def spec_l6In.f (a0 : Int) (a1 : Int) (a2 : Int) : Option (Bool) := if a0 ≥ a1 then (some (decide (a0 ≤ a2))) else (some false)
set_option maxHeartbeats 8000000 in
set_option maxRecDepth 100000 in
theorem spec_l6In.calls (a0 : Int) (a1 : Int) (a2 : Int) (r : Bool) (w : World) (h : spec_l6In.f a0 a1 a2 = some r) :
  Calls Tryz.prog 17 #[.int .i64 a0, .int .i64 a1, .int .i64 a2] w fun e w' => e = .returned (.bool r) ∧ Drawn0 w w' := by
 have H : (if a0 ≥ a1 then (some (decide (a0 ≤ a2))) else (some false)) = some r := h; clear h; by_cases c4 : a0 ≥ a1
 ·rw [if_pos c4] at H; have c4b0 := decide_eq_true c4; clear c4; obtain rfl := Option.some.inj H; go_enter Tryz.func17, Tryz.ntmps17; go_wp2; go_ret; exact ⟨by first | rfl | (simp; done) | (simp [*]; done), by repeat (first | exact Drawn0.refl _ | apply Drawn0.step)⟩
 rw [if_neg c4] at H; have c4b0 := decide_eq_false c4; clear c4; obtain rfl := Option.some.inj H; go_enter Tryz.func17, Tryz.ntmps17; go_wp2; go_ret; exact ⟨by first | rfl | (simp; done) | (simp [*]; done), by repeat (first | exact Drawn0.refl _ | apply Drawn0.step)⟩
theorem z33_1 {p : Prop} (h : p := by first | rfl | (simp [errW_none, errW_some] <;> rfl) | (simp [*, errW_none, errW_some] <;> rfl)) : p := h
def spec_l1Reads.f (a0_0 : Int) (a0_1 : Int) (a0_2 : Int) : Option (Bool) := if a0_0 = 2 then (some true) else (some (a0_0 == 5))
set_option maxHeartbeats 8000000 in
set_option maxRecDepth 100000 in
theorem spec_l1Reads.calls (a0_0 : Int) (a0_1 : Int) (a0_2 : Int) (r : Bool) (w : World) (h : spec_l1Reads.f a0_0 a0_1 a0_2 = some r) :
  Calls Tryz.prog 33 #[.agg #[.int .i64 a0_0, .int .i64 a0_1, .int .i64 a0_2]] w fun e w' => e = .returned (.bool r) ∧ Below w.heap.size w w' := by
 have hu45 := Tryz.underlying45; have HB := am_ (Below.refl w.heap.size w); have H : (if a0_0 = 2 then (some true) else (some (a0_0 == 5))) = some r := h; clear h; by_cases c2 : a0_0 = 2
 ·rw [if_pos c2] at H; have c2b0 := beq_iff_eq.mpr c2; have c2b1 := bne_eq_false_iff_eq.mpr c2; clear c2; obtain rfl := Option.some.inj H; go_enter Tryz.func33, Tryz.ntmps33; go_wp2_with (first | ((with_reducible refine gd 1 ?_); refine boxR w 1 #[.int .i64 a0_0, .int .i64 a0_1, .int .i64 a0_2] 45 ?_; clear HB; intro gb194 hg GE194 w3 BK194 hb HB; clear hb hg; obtain ⟨_, _, _, _, _, _⟩ := cz3 BK194))
  go_ret; exact ⟨z33_1, hh⟩
 rw [if_neg c2] at H; have c2b0 := beq_eq_false_iff_ne.mpr c2; have c2b1 := bne_iff_ne.mpr c2; obtain rfl := Option.some.inj H; go_enter Tryz.func33, Tryz.ntmps33; go_wp2_with (first | ((with_reducible refine gd 1 ?_); refine boxR w 1 #[.int .i64 a0_0, .int .i64 a0_1, .int .i64 a0_2] 45 ?_; clear HB; intro gb194 hg GE194 w5 BK194 hb HB; clear hb hg; obtain ⟨_, _, _, _, _, _⟩ := cz3 BK194))
 go_ret; exact ⟨z33_1, hh⟩
theorem z34_1 {p : Prop} (h : p := by first | rfl | (simp [errW_none, errW_some] <;> rfl) | (simp [*, errW_none, errW_some] <;> rfl)) : p := h
def spec_l1Writes.f (a0_0 : Int) (a0_1 : Int) (a0_2 : Int) : Option (Bool) := if a0_0 = 1 then (some true) else (if a0_0 = 3 then (some true) else (some (a0_0 == 6)))
set_option maxHeartbeats 8000000 in
set_option maxRecDepth 100000 in
theorem spec_l1Writes.calls (a0_0 : Int) (a0_1 : Int) (a0_2 : Int) (r : Bool) (w : World) (h : spec_l1Writes.f a0_0 a0_1 a0_2 = some r) :
  Calls Tryz.prog 34 #[.agg #[.int .i64 a0_0, .int .i64 a0_1, .int .i64 a0_2]] w fun e w' => e = .returned (.bool r) ∧ Below w.heap.size w w' := by
 have hu45 := Tryz.underlying45; have HB := am_ (Below.refl w.heap.size w); have H : (if a0_0 = 1 then (some true) else (if a0_0 = 3 then (some true) else (some (a0_0 == 6)))) = some r := h; clear h; by_cases c2 : a0_0 = 1
 ·rw [if_pos c2] at H; have c2b0 := beq_iff_eq.mpr c2; have c2b1 := bne_eq_false_iff_eq.mpr c2; clear c2; obtain rfl := Option.some.inj H; go_enter Tryz.func34, Tryz.ntmps34; go_wp2_with (first | ((with_reducible refine gd 1 ?_); refine boxR w 1 #[.int .i64 a0_0, .int .i64 a0_1, .int .i64 a0_2] 45 ?_; clear HB; intro gb195 hg GE195 w3 BK195 hb HB; clear hb hg; obtain ⟨_, _, _, _, _, _⟩ := cz3 BK195))
  go_ret; exact ⟨z34_1, hh⟩
 rw [if_neg c2] at H; have c2b0 := beq_eq_false_iff_ne.mpr c2; have c2b1 := bne_iff_ne.mpr c2; by_cases c5 : a0_0 = 3
 ·rw [if_pos c5] at H; have c5b0 := beq_iff_eq.mpr c5; have c5b1 := bne_eq_false_iff_eq.mpr c5; clear c5; obtain rfl := Option.some.inj H; go_enter Tryz.func34, Tryz.ntmps34; go_wp2_with (first | ((with_reducible refine gd 1 ?_); refine boxR w 1 #[.int .i64 a0_0, .int .i64 a0_1, .int .i64 a0_2] 45 ?_; clear HB; intro gb195 hg GE195 w6 BK195 hb HB; clear hb hg; obtain ⟨_, _, _, _, _, _⟩ := cz3 BK195))
  go_ret; exact ⟨z34_1, hh⟩
 rw [if_neg c5] at H; have c5b0 := beq_eq_false_iff_ne.mpr c5; have c5b1 := bne_iff_ne.mpr c5; obtain rfl := Option.some.inj H; go_enter Tryz.func34, Tryz.ntmps34; go_wp2_with (first | ((with_reducible refine gd 1 ?_); refine boxR w 1 #[.int .i64 a0_0, .int .i64 a0_1, .int .i64 a0_2] 45 ?_; clear HB; intro gb195 hg GE195 w8 BK195 hb HB; clear hb hg; obtain ⟨_, _, _, _, _, _⟩ := cz3 BK195))
 go_ret; exact ⟨z34_1, hh⟩
theorem z19_1 {p : Prop} (h : p := by first | rfl | (simp [errW_none, errW_some] <;> rfl) | (simp [*, errW_none, errW_some] <;> rfl)) : p := h
def spec_l23Store.f (a0 : Int) (a1 : Int) (a2 : Int) : Option (Int × Int × Int) := if a2 = 2 then (some (6, a0, a1)) else (some (1, a0, a1))
set_option maxHeartbeats 8000000 in
set_option maxRecDepth 100000 in
theorem spec_l23Store.calls (a0 : Int) (a1 : Int) (a2 : Int) (r1 : Int) (r2 : Int) (r3 : Int) (w : World) (h : spec_l23Store.f a0 a1 a2 = some (r1, r2, r3)) :
  Calls Tryz.prog 19 #[.int .i64 a0, .int .i64 a1, .int .i64 a2] w fun e w' => e = .returned (.agg #[.int .i64 r1, .int .i64 r2, .int .i64 r3]) ∧ Below w.heap.size w w' := by
 have hu45 := Tryz.underlying45; have HB := am_ (Below.refl w.heap.size w); have H : (if a2 = 2 then (some (6, a0, a1)) else (some (1, a0, a1))) = some (r1, r2, r3) := h; clear h; by_cases c4 : a2 = 2
 ·rw [if_pos c4] at H; have c4b0 := beq_iff_eq.mpr c4; have c4b1 := bne_eq_false_iff_eq.mpr c4; clear c4; simp only [Option.some.injEq, Prod.mk.injEq] at H; obtain ⟨rfl, rfl, rfl⟩ := H; go_enter Tryz.func19, Tryz.ntmps19; go_wp2_with (first | ((with_reducible refine gd 6 ?_); refine boxR w 6 #[.int .i64 0, .int .i64 0, .int .i64 0] 45 ?_; clear HB; intro gb212 hg GE212 w5 BK212 hb HB; clear hb hg; obtain ⟨_, _, _, _, _, _⟩ := cz3 BK212))
  refine bodyPost_ret (results_cell_row rfl _ _ gb212 45 #[.int .i64 6, .int .i64 a0, .int .i64 a1] (0, 0) _ rfl bx Tryz.underlying45 rfl (by kernel_rfl)) rfl ?_; exact ⟨z19_1, hh⟩
 rw [if_neg c4] at H; have c4b0 := beq_eq_false_iff_ne.mpr c4; have c4b1 := bne_iff_ne.mpr c4; simp only [Option.some.injEq, Prod.mk.injEq] at H; obtain ⟨rfl, rfl, rfl⟩ := H; go_enter Tryz.func19, Tryz.ntmps19; go_wp2_with (first | ((with_reducible refine gd 6 ?_); refine boxR w 6 #[.int .i64 0, .int .i64 0, .int .i64 0] 45 ?_; clear HB; intro gb212 hg GE212 w7 BK212 hb HB; clear hb hg; obtain ⟨_, _, _, _, _, _⟩ := cz3 BK212))
 refine bodyPost_ret (results_cell_row rfl _ _ gb212 45 #[.int .i64 1, .int .i64 a0, .int .i64 a1] (0, 0) _ rfl bx Tryz.underlying45 rfl (by kernel_rfl)) rfl ?_; exact ⟨z19_1, hh⟩
theorem z20_1 {p : Prop} (h : p := by first | rfl | (simp [errW_none, errW_some] <;> rfl) | (simp [*, errW_none, errW_some] <;> rfl)) : p := h
def spec_l23Load.f (a0 : Int) (a1 : Int) : Option (Int × Int × Int) := if a1 = 2 then (some (5, a0, 0)) else (some (2, a0, 0))
set_option maxHeartbeats 8000000 in
set_option maxRecDepth 100000 in
theorem spec_l23Load.calls (a0 : Int) (a1 : Int) (r1 : Int) (r2 : Int) (r3 : Int) (w : World) (h : spec_l23Load.f a0 a1 = some (r1, r2, r3)) :
  Calls Tryz.prog 20 #[.int .i64 a0, .int .i64 a1] w fun e w' => e = .returned (.agg #[.int .i64 r1, .int .i64 r2, .int .i64 r3]) ∧ Below w.heap.size w w' := by
 have hu45 := Tryz.underlying45; have HB := am_ (Below.refl w.heap.size w); have H : (if a1 = 2 then (some (5, a0, 0)) else (some (2, a0, 0))) = some (r1, r2, r3) := h; clear h; by_cases c3 : a1 = 2
 ·rw [if_pos c3] at H; have c3b0 := beq_iff_eq.mpr c3; have c3b1 := bne_eq_false_iff_eq.mpr c3; clear c3; simp only [Option.some.injEq, Prod.mk.injEq] at H; obtain ⟨rfl, rfl, rfl⟩ := H; go_enter Tryz.func20, Tryz.ntmps20; go_wp2_with (first | ((with_reducible refine gd 4 ?_); refine boxR w 4 #[.int .i64 0, .int .i64 0, .int .i64 0] 45 ?_; clear HB; intro gb213 hg GE213 w4 BK213 hb HB; clear hb hg; obtain ⟨_, _, _, _, _, _⟩ := cz3 BK213))
  refine bodyPost_ret (results_cell_row rfl _ _ gb213 45 #[.int .i64 5, .int .i64 a0, .int .i64 0] (0, 0) _ rfl bx Tryz.underlying45 rfl (by kernel_rfl)) rfl ?_; exact ⟨z20_1, hh⟩
 rw [if_neg c3] at H; have c3b0 := beq_eq_false_iff_ne.mpr c3; have c3b1 := bne_iff_ne.mpr c3; simp only [Option.some.injEq, Prod.mk.injEq] at H; obtain ⟨rfl, rfl, rfl⟩ := H; go_enter Tryz.func20, Tryz.ntmps20; go_wp2_with (first | ((with_reducible refine gd 4 ?_); refine boxR w 4 #[.int .i64 0, .int .i64 0, .int .i64 0] 45 ?_; clear HB; intro gb213 hg GE213 w6 BK213 hb HB; clear hb hg; obtain ⟨_, _, _, _, _, _⟩ := cz3 BK213))
 refine bodyPost_ret (results_cell_row rfl _ _ gb213 45 #[.int .i64 2, .int .i64 a0, .int .i64 0] (0, 0) _ rfl bx Tryz.underlying45 rfl (by kernel_rfl)) rfl ?_; exact ⟨z20_1, hh⟩
theorem eqA45 (d : Nat) (w : World) (x0 y0 : Int) (x1 y1 : Int) (x2 y2 : Int) :
    (Op.equalIn (d + 2) 45 (.agg #[.int .i64 x0, .int .i64 x1, .int .i64 x2]) (.agg #[.int .i64 y0, .int .i64 y1, .int .i64 y2])).run Tryz.prog w = .ok (x0 == y0 && (x1 == y1 && (x2 == y2))) w := by
  refine eqA_of Tryz.underlying45 (by kernel_rfl) ?_; refine eqf_cons (by rfl) (by go_simp; rfl) (by go_simp; rfl) (by go_simp) ?_; refine eqf_cons (by rfl) (by go_simp; rfl) (by go_simp; rfl) (by go_simp) ?_; exact eqf_last (by rfl) (by go_simp; rfl) (by go_simp; rfl) (by go_simp)
theorem z43_1 {p : Prop} (h : p := by first | rfl | (simp [errW_none, errW_some] <;> rfl) | (simp [*, errW_none, errW_some] <;> rfl)) : p := h
def impl_Do_uses.f (a0_0 : Int) (a0_1 : Int) (a0_2 : Int) : Option (Bool) := (impl_Do_reads.f a0_0 a0_1 a0_2).bind fun t104 => (if t104 = true then (some true) else ((impl_Do_writes.f a0_0 a0_1 a0_2).bind fun t105 => (some t105)))
set_option maxHeartbeats 8000000 in
set_option maxRecDepth 100000 in
theorem impl_Do_uses.calls (a0_0 : Int) (a0_1 : Int) (a0_2 : Int) (r : Bool) (w : World) (h : impl_Do_uses.f a0_0 a0_1 a0_2 = some r) :
  Calls Tryz.prog 43 #[.agg #[.int .i64 a0_0, .int .i64 a0_1, .int .i64 a0_2]] w fun e w' => e = .returned (.bool r) ∧ Below w.heap.size w w' := by
 have hu45 := Tryz.underlying45; have HB := am_ (Below.refl w.heap.size w); have H : ((impl_Do_reads.f a0_0 a0_1 a0_2).bind fun t104 => (if t104 = true then (some true) else ((impl_Do_writes.f a0_0 a0_1 a0_2).bind fun t105 => (some t105)))) = some r := h; clear h; replace H := Option.bind_eq_some_iff.mp H; obtain ⟨t104, A20, H⟩ := H; replace H : (if t104 = true then (some true) else ((impl_Do_writes.f a0_0 a0_1 a0_2).bind fun t105 => (some t105))) = some r := H; have A2 := am_ A20; clear A20; by_cases c3 : t104 = true
 ·subst c3; rw [if_pos rfl] at H; obtain rfl := Option.some.inj H; go_enter Tryz.func43, Tryz.ntmps43; go_wp2_with (first | ((with_reducible refine gd 1 ?_); refine boxR w 1 #[.int .i64 a0_0, .int .i64 a0_1, .int .i64 a0_2] 45 ?_; clear HB; intro gb103 hg GE103 w4 BK103 hb HB; clear hb hg; obtain ⟨_, _, _, _, _, _⟩ := cz3 BK103) | ((with_reducible refine gc 40 ?_); refine goesQ 4 Tryz.func40 #[.agg #[.int .i64 a0_0, .int .i64 a0_1, .int .i64 a0_2]] ?_; (with_reducible refine (impl_Do_reads.calls a0_0 a0_1 a0_2 true _ A2.out).mono ?_); rintro e w6 ⟨rfl, hb⟩; refine ⟨_, rfl, ?_⟩; replace BK103 := bk BK103 hb; replace HB := hs hb; clear hb))
  go_ret; exact ⟨z43_1, hh⟩
 replace c3 := Bool.eq_false_iff.mpr c3; subst c3; rw [if_neg Bool.false_ne_true] at H; replace H := Option.bind_eq_some_iff.mp H; obtain ⟨t105, A70, H⟩ := H; replace H : (some t105) = some r := H; have A7 := am_ A70; clear A70; obtain rfl := Option.some.inj H; go_enter Tryz.func43, Tryz.ntmps43; go_wp2_with (first | ((with_reducible refine gd 1 ?_); refine boxR w 1 #[.int .i64 a0_0, .int .i64 a0_1, .int .i64 a0_2] 45 ?_; clear HB; intro gb103 hg GE103 w8 BK103 hb HB; clear hb hg; obtain ⟨_, _, _, _, _, _⟩ := cz3 BK103) | ((with_reducible refine gc 40 ?_); refine goesQ 4 Tryz.func40 #[.agg #[.int .i64 a0_0, .int .i64 a0_1, .int .i64 a0_2]] ?_; (with_reducible refine (impl_Do_reads.calls a0_0 a0_1 a0_2 false _ A2.out).mono ?_); rintro e w10 ⟨rfl, hb⟩; refine ⟨_, rfl, ?_⟩; replace BK103 := bk BK103 hb; replace HB := hs hb; clear hb; obtain ⟨_, _, _, _, _, _⟩ := cz3 BK103) | (go_at_call 41; (with_reducible refine (impl_Do_writes.calls a0_0 a0_1 a0_2 t105 _ A7.out).mono ?_); rintro e w12 ⟨rfl, hb⟩; replace BK103 := bk BK103 hb; replace HB := hs hb; clear hb))
 go_ret; exact ⟨z43_1, hh⟩
theorem z76_1 {p : Prop} (h : p := by first | (with_reducible assumption) | assumption) : p := h
def impl_scene_lastRead.l0 : Nat → Int → List (List (S45)) → List (S87) → List (S45) → Option (Int)
  | 0, _, _, _, _ => none
  | k + 1, x1, x01, x02, x00 => if 0 ≤ x1 then (if x1 < (x00.length : Int) then ((impl_Do_reads.f ((rd_T45 x00 x1).f0) ((rd_T45 x00 x1).f1) ((rd_T45 x00 x1).f2)).bind fun t133 => (if t133 = true then (some x1) else (impl_scene_lastRead.l0 k (wrap64 (x1 - 1)) x01 x02 x00))) else (none)) else (none)
def impl_scene_lastRead.f (k : Nat) (l0_0 : List (List (S45))) (l0_1 : List (S87)) (l0_2 : List (S45)) (a1 : Int) : Option (Int) := impl_scene_lastRead.l0 k (wrap64 (a1 - 1)) l0_0 l0_1 l0_2
set_option maxHeartbeats 8000000 in
set_option maxRecDepth 100000 in
theorem impl_scene_lastRead.calls (k : Nat) (A0_0 : Option Addr) (c0_0 : Nat) (l0_0 : List (List (S45))) (A0_1 : Option Addr) (c0_1 : Nat) (l0_1 : List (S87)) (A0_2 : Option Addr) (c0_2 : Nat) (l0_2 : List (S45)) (a1 : Int) (r : Int) (w : World) (hr0_0 : Kd.C (Kd.slice 45 k45) w A0_0 l0_0.length l0_0) (hc0_0 : l0_0.length ≤ c0_0) (hr0_1 : Kd.C k87 w A0_1 l0_1.length l0_1) (hc0_1 : l0_1.length ≤ c0_1) (hr0_2 : Kd.C k45 w A0_2 l0_2.length l0_2) (hc0_2 : l0_2.length ≤ c0_2) (h : impl_scene_lastRead.f k l0_0 l0_1 l0_2 a1 = some r) :
  Calls Tryz.prog 76 #[.agg #[.slice A0_0 l0_0.length c0_0, .slice A0_1 l0_1.length c0_1, .slice A0_2 l0_2.length c0_2], .int .i64 a1] w fun e w' => e = .returned (.int .i64 r) ∧ Below w.heap.size w w' := by
 have hu59 := Tryz.underlying59; have hu45 := Tryz.underlying45; have HR0_0 := am_ hr0_0; have HC0_0 := am_ hc0_0; clear hr0_0 hc0_0; have HR0_1 := am_ hr0_1; have HC0_1 := am_ hc0_1; clear hr0_1 hc0_1; have HR0_2 := am_ hr0_2; have HC0_2 := am_ hc0_2; clear hr0_2 hc0_2; have HB := am_ (Below.refl w.heap.size w); have H : (impl_scene_lastRead.l0 k (wrap64 (a1 - 1)) l0_0 l0_1 l0_2) = some r := h; clear h; have H' := am_ H; clear H; go_enter Tryz.func76, Tryz.ntmps76; go_wp2_with (first | ((with_reducible refine gd 2 ?_); refine boxR w 2 #[.slice A0_0 l0_0.length c0_0, .slice A0_1 l0_1.length c0_1, .slice A0_2 l0_2.length c0_2] 59 ?_; clear HB; intro gb131 hg GE131 w3 BK131 hb HB; clear hb hg))
 go_loopg [1] k (fun kq v1 w' => ∃ (x1_1 : Int), v1 = .int .i64 x1_1 ∧ Aside0 (impl_scene_lastRead.l0 kq x1_1 l0_0 l0_1 l0_2 = some r) ∧ Aside0 (kq ≤ k) ∧ Aside0 (w'.heap[gb131]? = some (.cells #[(.slice A0_0 l0_0.length c0_0), (.slice A0_1 l0_1.length c0_1), (.slice A0_2 l0_2.length c0_2)] 59 (0, 0))) ∧ Aside0 (Below w.heap.size w w'))
 case atStart => exact ⟨(wrap64 (a1 - 1)), (by first | rfl | (simp; done) | (simp [*]; done)), H', ⟨Nat.le_refl _⟩, ⟨bu BK131.out⟩, ⟨hh⟩⟩
 case round =>
  clear H'; obtain ⟨x1_1, rfl, HA, HK1, BK131, HB⟩ := hrel
  cases gk with
  | zero => exact absurd HA.out (by simp [impl_scene_lastRead.l0])
  | succ k1 =>
   have H := HA.out; clear HA; simp only [impl_scene_lastRead.l0] at H; by_cases c4 : 0 ≤ x1_1
   ·rw [if_pos c4] at H; have c4b0 := decide_eq_true c4; clear c4; by_cases c5 : x1_1 < (l0_2.length : Int)
    ·rw [if_pos c5] at H; have c5b0 := decide_eq_true c5; clear c5; replace H := Option.bind_eq_some_iff.mp H; obtain ⟨t133, A60, H⟩ := H; replace H : (if t133 = true then (some x1_1) else (impl_scene_lastRead.l0 k1 (wrap64 (x1_1 - 1)) l0_0 l0_1 l0_2)) = some r := H; have A6 := am_ A60; clear A60; by_cases c7 : t133 = true
     ·subst c7; rw [if_pos rfl] at H; obtain rfl := Option.some.inj H; have := cy1 BK131; have hcz8_1 := cf1 BK131.out; have hcz8_2 := cf2 BK131.out; have hfz8_0 := blk_frozen BK131.out 0; have hfz8_1 := blk_frozen BK131.out 1; have hfz8_2 := blk_frozen BK131.out 2; have p132 : 0 ≤ (x1_1 : Int) := of_decide_eq_true z76_1; have q132 : x1_1 < (l0_2.length : Int) := of_decide_eq_true z76_1; obtain ⟨ad132, e132, hx132_0, hx132_1, hx132_2⟩ := at_T45 HR0_2.out x1_1 p132 q132; cases e132; replace hx132_0 := xc HB hx132_0; replace hx132_1 := xc HB hx132_1; replace hx132_2 := xc HB hx132_2; replace p132 := eq_true p132; replace q132 := eq_true q132; go_wp2_with (first | ((with_reducible refine gc 40 ?_); refine goesQ 12 Tryz.func40 #[.agg #[.int .i64 ((rd_T45 l0_2 x1_1).f0), .int .i64 ((rd_T45 l0_2 x1_1).f1), .int .i64 ((rd_T45 l0_2 x1_1).f2)]] ?_; (with_reducible refine (impl_Do_reads.calls ((rd_T45 l0_2 x1_1).f0) ((rd_T45 l0_2 x1_1).f1) ((rd_T45 l0_2 x1_1).f2) true _ A6.out).mono ?_); rintro e w9 ⟨rfl, hb⟩; refine ⟨_, rfl, ?_⟩; replace BK131 := bk BK131 hb; replace HB := hs hb; clear hb))
      go_ret; exact ⟨by first | rfl | (simp [errW_none, errW_some] <;> rfl) | (simp [*, errW_none, errW_some] <;> rfl), hh⟩
     replace c7 := Bool.eq_false_iff.mpr c7; subst c7; rw [if_neg Bool.false_ne_true] at H; have H' := am_ H; clear H; have := cy1 BK131; have hcz10_1 := cf1 BK131.out; have hcz10_2 := cf2 BK131.out; have hfz10_0 := blk_frozen BK131.out 0; have hfz10_1 := blk_frozen BK131.out 1; have hfz10_2 := blk_frozen BK131.out 2; have p132 : 0 ≤ (x1_1 : Int) := of_decide_eq_true z76_1; have q132 : x1_1 < (l0_2.length : Int) := of_decide_eq_true z76_1; obtain ⟨ad132, e132, hx132_0, hx132_1, hx132_2⟩ := at_T45 HR0_2.out x1_1 p132 q132; cases e132; replace hx132_0 := xc HB hx132_0; replace hx132_1 := xc HB hx132_1; replace hx132_2 := xc HB hx132_2; replace p132 := eq_true p132; replace q132 := eq_true q132; go_wp2_with (first | ((with_reducible refine gc 40 ?_); refine goesQ 12 Tryz.func40 #[.agg #[.int .i64 ((rd_T45 l0_2 x1_1).f0), .int .i64 ((rd_T45 l0_2 x1_1).f1), .int .i64 ((rd_T45 l0_2 x1_1).f2)]] ?_; (with_reducible refine (impl_Do_reads.calls ((rd_T45 l0_2 x1_1).f0) ((rd_T45 l0_2 x1_1).f1) ((rd_T45 l0_2 x1_1).f2) false _ A6.out).mono ?_); rintro e w11 ⟨rfl, hb⟩; refine ⟨_, rfl, ?_⟩; replace BK131 := bk BK131 hb; replace HB := hs hb; clear hb))
     go_roundg k1
     case measure => have := HK1.out; omega
     case rel => exact ⟨(wrap64 (x1_1 - 1)), (by first | rfl | (simp; done) | (simp [*]; done)), H', ⟨by have := HK1.out; omega⟩, ⟨bu BK131.out⟩, ⟨hh⟩⟩
    rw [if_neg c5] at H; exact absurd H (by simp)
   rw [if_neg c4] at H; exact absurd H (by simp)
theorem z91_1 {p : Prop} (h : p := by first | rfl | (simp; done) | (simp [*]; done)) : p := h
theorem z91_2 {p : Prop} (h : p := by repeat (first | exact Drawn0.refl _ | apply Drawn0.step)) : p := h
def cmp_Compare_int.f (a0 : Int) (a1 : Int) : Option (Int) := (cmp_isNaN_int.f a0).bind fun t159 => ((cmp_isNaN_int.f a1).bind fun t160 => (if t159 = true then (if t160 = true then (some 0) else (some (-1))) else (if t160 = true then (some 1) else (if a0 < a1 then (some (-1)) else (if a0 > a1 then (some 1) else (some 0))))))
set_option maxHeartbeats 8000000 in
set_option maxRecDepth 100000 in
theorem cmp_Compare_int.calls (a0 : Int) (a1 : Int) (r : Int) (w : World) (h : cmp_Compare_int.f a0 a1 = some r) :
  Calls Tryz.prog 91 #[.int .i64 a0, .int .i64 a1] w fun e w' => e = .returned (.int .i64 r) ∧ Drawn0 w w' := by
 have H : ((cmp_isNaN_int.f a0).bind fun t159 => ((cmp_isNaN_int.f a1).bind fun t160 => (if t159 = true then (if t160 = true then (some 0) else (some (-1))) else (if t160 = true then (some 1) else (if a0 < a1 then (some (-1)) else (if a0 > a1 then (some 1) else (some 0))))))) = some r := h; clear h; replace H := Option.bind_eq_some_iff.mp H; obtain ⟨t159, A30, H⟩ := H; replace H : ((cmp_isNaN_int.f a1).bind fun t160 => (if t159 = true then (if t160 = true then (some 0) else (some (-1))) else (if t160 = true then (some 1) else (if a0 < a1 then (some (-1)) else (if a0 > a1 then (some 1) else (some 0)))))) = some r := H; have A3 := am_ A30; clear A30; replace H := Option.bind_eq_some_iff.mp H; obtain ⟨t160, A40, H⟩ := H; replace H : (if t159 = true then (if t160 = true then (some 0) else (some (-1))) else (if t160 = true then (some 1) else (if a0 < a1 then (some (-1)) else (if a0 > a1 then (some 1) else (some 0))))) = some r := H; have A4 := am_ A40; clear A40; by_cases c5 : t159 = true
 ·subst c5; rw [if_pos rfl] at H; by_cases c6 : t160 = true
  ·subst c6; rw [if_pos rfl] at H; obtain rfl := Option.some.inj H; go_enter Tryz.func91, Tryz.ntmps91; go_wp2_with (first | ((with_reducible refine gc 105 ?_); refine goesQ 8 Tryz.func105 #[.int .i64 a0] ?_; (with_reducible refine (cmp_isNaN_int.calls a0 true _ A3.out).mono ?_); rintro e w' ⟨rfl, ⟨nd, rfl⟩⟩; refine ⟨_, rfl, ?_⟩) | ((with_reducible refine gc 105 ?_); refine goesQ 10 Tryz.func105 #[.int .i64 a1] ?_; (with_reducible refine (cmp_isNaN_int.calls a1 true _ A4.out).mono ?_); rintro e w' ⟨rfl, ⟨nd, rfl⟩⟩; refine ⟨_, rfl, ?_⟩))
   go_ret; exact ⟨z91_1, z91_2⟩
  replace c6 := Bool.eq_false_iff.mpr c6; subst c6; rw [if_neg Bool.false_ne_true] at H; obtain rfl := Option.some.inj H; go_enter Tryz.func91, Tryz.ntmps91; go_wp2_with (first | ((with_reducible refine gc 105 ?_); refine goesQ 8 Tryz.func105 #[.int .i64 a0] ?_; (with_reducible refine (cmp_isNaN_int.calls a0 true _ A3.out).mono ?_); rintro e w' ⟨rfl, ⟨nd, rfl⟩⟩; refine ⟨_, rfl, ?_⟩) | ((with_reducible refine gc 105 ?_); refine goesQ 10 Tryz.func105 #[.int .i64 a1] ?_; (with_reducible refine (cmp_isNaN_int.calls a1 false _ A4.out).mono ?_); rintro e w' ⟨rfl, ⟨nd, rfl⟩⟩; refine ⟨_, rfl, ?_⟩))
  go_ret; exact ⟨z91_1, z91_2⟩
 replace c5 := Bool.eq_false_iff.mpr c5; subst c5; rw [if_neg Bool.false_ne_true] at H; by_cases c7 : t160 = true
 ·subst c7; rw [if_pos rfl] at H; obtain rfl := Option.some.inj H; go_enter Tryz.func91, Tryz.ntmps91; go_wp2_with (first | ((with_reducible refine gc 105 ?_); refine goesQ 8 Tryz.func105 #[.int .i64 a0] ?_; (with_reducible refine (cmp_isNaN_int.calls a0 false _ A3.out).mono ?_); rintro e w' ⟨rfl, ⟨nd, rfl⟩⟩; refine ⟨_, rfl, ?_⟩) | ((with_reducible refine gc 105 ?_); refine goesQ 10 Tryz.func105 #[.int .i64 a1] ?_; (with_reducible refine (cmp_isNaN_int.calls a1 true _ A4.out).mono ?_); rintro e w' ⟨rfl, ⟨nd, rfl⟩⟩; refine ⟨_, rfl, ?_⟩))
  go_ret; exact ⟨z91_1, z91_2⟩
 replace c7 := Bool.eq_false_iff.mpr c7; subst c7; rw [if_neg Bool.false_ne_true] at H; by_cases c8 : a0 < a1
 ·rw [if_pos c8] at H; have c8b0 := decide_eq_true c8; clear c8; obtain rfl := Option.some.inj H; go_enter Tryz.func91, Tryz.ntmps91; go_wp2_with (first | ((with_reducible refine gc 105 ?_); refine goesQ 8 Tryz.func105 #[.int .i64 a0] ?_; (with_reducible refine (cmp_isNaN_int.calls a0 false _ A3.out).mono ?_); rintro e w' ⟨rfl, ⟨nd, rfl⟩⟩; refine ⟨_, rfl, ?_⟩) | ((with_reducible refine gc 105 ?_); refine goesQ 10 Tryz.func105 #[.int .i64 a1] ?_; (with_reducible refine (cmp_isNaN_int.calls a1 false _ A4.out).mono ?_); rintro e w' ⟨rfl, ⟨nd, rfl⟩⟩; refine ⟨_, rfl, ?_⟩))
  go_ret; exact ⟨z91_1, z91_2⟩
 rw [if_neg c8] at H; have c8b0 := decide_eq_false c8; clear c8; by_cases c9 : a0 > a1
 ·rw [if_pos c9] at H; have c9b0 := decide_eq_true c9; clear c9; obtain rfl := Option.some.inj H; go_enter Tryz.func91, Tryz.ntmps91; go_wp2_with (first | ((with_reducible refine gc 105 ?_); refine goesQ 8 Tryz.func105 #[.int .i64 a0] ?_; (with_reducible refine (cmp_isNaN_int.calls a0 false _ A3.out).mono ?_); rintro e w' ⟨rfl, ⟨nd, rfl⟩⟩; refine ⟨_, rfl, ?_⟩) | ((with_reducible refine gc 105 ?_); refine goesQ 10 Tryz.func105 #[.int .i64 a1] ?_; (with_reducible refine (cmp_isNaN_int.calls a1 false _ A4.out).mono ?_); rintro e w' ⟨rfl, ⟨nd, rfl⟩⟩; refine ⟨_, rfl, ?_⟩))
  go_ret; exact ⟨z91_1, z91_2⟩
 rw [if_neg c9] at H; have c9b0 := decide_eq_false c9; clear c9; obtain rfl := Option.some.inj H; go_enter Tryz.func91, Tryz.ntmps91; go_wp2_with (first | ((with_reducible refine gc 105 ?_); refine goesQ 8 Tryz.func105 #[.int .i64 a0] ?_; (with_reducible refine (cmp_isNaN_int.calls a0 false _ A3.out).mono ?_); rintro e w' ⟨rfl, ⟨nd, rfl⟩⟩; refine ⟨_, rfl, ?_⟩) | ((with_reducible refine gc 105 ?_); refine goesQ 10 Tryz.func105 #[.int .i64 a1] ?_; (with_reducible refine (cmp_isNaN_int.calls a1 false _ A4.out).mono ?_); rintro e w' ⟨rfl, ⟨nd, rfl⟩⟩; refine ⟨_, rfl, ?_⟩))
 go_ret; exact ⟨z91_1, z91_2⟩
def impl_isOrder.f (a0 : Int) : Option (Bool) := (impl_in.f a0 1 3).bind fun t368 => (some t368)
set_option maxHeartbeats 8000000 in
set_option maxRecDepth 100000 in
theorem impl_isOrder.calls (a0 : Int) (r : Bool) (w : World) (h : impl_isOrder.f a0 = some r) :
  Calls Tryz.prog 25 #[.int .i64 a0] w fun e w' => e = .returned (.bool r) ∧ Drawn0 w w' := by
 have H : ((impl_in.f a0 1 3).bind fun t368 => (some t368)) = some r := h; clear h; replace H := Option.bind_eq_some_iff.mp H; obtain ⟨t368, A20, H⟩ := H; replace H : (some t368) = some r := H; have A2 := am_ A20; clear A20; obtain rfl := Option.some.inj H; go_enter Tryz.func25, Tryz.ntmps25; go_wp2_with (first | ((with_reducible refine gc 21 ?_); refine goesQ 4 Tryz.func21 #[.int .i64 a0, .int .i64 1, .int .i64 3] ?_; (with_reducible refine (impl_in.calls a0 1 3 t368 _ A2.out).mono ?_); rintro e w' ⟨rfl, ⟨nd, rfl⟩⟩; refine ⟨_, rfl, ?_⟩))
 go_ret; exact ⟨by first | rfl | (simp; done) | (simp [*]; done), by repeat (first | exact Drawn0.refl _ | apply Drawn0.step)⟩
end Go.Proofs.YtmkchdlkpbnldaaGreatDoor.PB

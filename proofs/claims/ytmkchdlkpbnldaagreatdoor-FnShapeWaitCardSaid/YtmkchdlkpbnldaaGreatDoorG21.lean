/- What the laws share, part 21: DrawShape Cl2 PBx24 Cl1 PBx44. -/
import Derived.Test.YtmkchdlkpbnldaaGreatDoorG18
import Derived.Test.YtmkchdlkpbnldaaGreatDoorG16
import Derived.Test.YtmkchdlkpbnldaaGreatDoorG4
import Derived.Test.YtmkchdlkpbnldaaGreatDoorG19
import Derived.Test.YtmkchdlkpbnldaaGreatDoorG8
import Derived.Test.YtmkchdlkpbnldaaGreatDoorG5
namespace Go.Proofs.YtmkchdlkpbnldaaGreatDoor.Pure
open Go.RowKit Go.Proofs.YtmkchdlkpbnldaaGreatDoor.PB Go.Proofs.YtmkchdlkpbnldaaGreatDoorW.PrintWords Go.Proofs.YtmkchdlkpbnldaaGreatDoorW.PrintLast
theorem u8_of_wf {l : List Int} (h : ∀ x ∈ l, (Lit.int .u8 x).wf = true) : ∀ x ∈ l, 0 ≤ x ∧ x ≤ 255 := by
  intro x hx
  have := h x hx
  simp only [Lit.wf, Bool.and_eq_true, decide_eq_true_eq] at this
  have hmin : IntKind.u8.min = 0 := rfl
  have hmax : IntKind.u8.max = 255 := rfl
  omega
theorem open_some (l : List Int) (hl : ∀ x ∈ l, 0 ≤ x ∧ x ≤ 255) : ∃ b, spec_l6Open.f l = some (b, 0) ∧ b.length ≤ 2000 ∧ ∀ x ∈ b, 0 ≤ x ∧ x ≤ 255 := by
  unfold spec_l6Open.f
  by_cases h : (l.length : Int) > 2000
  · rw [if_pos h, if_pos (by omega)]
    exact ⟨_, rfl, by simp; omega, fun x hx => hl x (List.mem_of_mem_take hx)⟩
  · rw [if_neg h]
    exact ⟨_, rfl, by omega, hl⟩
theorem drawShape_some (k : Nat) (l : List Int) (hl : ∀ x ∈ l, 0 ≤ x ∧ x ≤ 255) : ∃ s h, spec_DrawShapeOf.f (k + 1) l = some (s, h) := by
  obtain ⟨b, e, hb, hb8⟩ := open_some l hl
  unfold spec_DrawShapeOf.f
  rw [e]
  simp only [Option.bind_some]
  obtain ⟨r, e1, _⟩ := pick_some k b 0 6 hb hb8 (by omega) (by omega)
  rw [e1]
  simp only [Option.bind_some]
  split
  · obtain ⟨r2, e2, _⟩ := pick_some k b (0 + 1) 9 hb hb8 (by omega) (by omega)
    rw [e2]; simp only [Option.bind_some]
    obtain ⟨r3, e3, _⟩ := pick_some k b (0 + 1 + 1) 6 hb hb8 (by omega) (by omega)
    rw [e3]; exact ⟨_, _, rfl⟩
  · obtain ⟨r2, e2, _⟩ := pick_some k b (0 + 1) 6 hb hb8 (by omega) (by omega)
    rw [e2]; simp only [Option.bind_some]
    obtain ⟨r3, e3, _⟩ := pick_some k b (0 + 1 + 1) 4 hb hb8 (by omega) (by omega)
    rw [e3]; exact ⟨_, _, rfl⟩
end Go.Proofs.YtmkchdlkpbnldaaGreatDoor.Pure
namespace Go.Proofs.YtmkchdlkpbnldaaGreatDoor.PB
open Go.RowKit Go.Proofs.YtmkchdlkpbnldaaGreatDoorW.PrintWords Go.Proofs.YtmkchdlkpbnldaaGreatDoorW.PrintLast Go.Proofs.YtmkchdlkpbnldaaGreatDoorW.PrintMore
open Go.Proofs.YtmkchdlkpbnldaaGreatDoorMine
set_option linter.unusedVariables false
set_option linter.unusedSimpArgs false
theorem wr_eq (x y z : Int) : impl_Do_writes.f x y z = some (x == 1 || x == 3 || x == 6) := by
  by_cases h1 : x = 1 <;> by_cases h2 : x = 3 <;> simp [impl_Do_writes.f, h1, h2]
theorem rd_eq (x y z : Int) : impl_Do_reads.f x y z = some (x == 2 || x == 5) := by
  by_cases h1 : x = 2 <;> simp [impl_Do_reads.f, h1]
def has_f (k : Nat) (l0 : List (List S45)) (l1 : List S87) (l2 : List S45) (x0 : List Int) (x1 : List (List Int)) (kd a b : Int) : Option Bool :=
  (impl_scene_own.f l0 l1 l2 a b).bind fun o => (impl_scene_over.f k l0 l1 l2 x0 x1 a b).bind fun v =>
  if 0 ≤ a ∧ a < l1.length ∧ a < l2.length ∧ 0 ≤ b ∧ b < l1.length ∧ b < l2.length ∧ b < x0.length then
    if kd = 1 then some (o || rd x0 b == a || v)
    else if kd = 2 then some (o && !(((rd_T45 l2 a).f0 == 1 || (rd_T45 l2 a).f0 == 3 || (rd_T45 l2 a).f0 == 6) && ((rd_T45 l2 b).f0 == 2 || (rd_T45 l2 b).f0 == 5)) || (rd x0 b == a) && ((rd_T87 l1 a).f0 != (rd_T87 l1 b).f0) || v)
    else (if o = true then impl_scene_loose.f k l0 l1 l2 a b else some false).bind fun q => some (o && q || (rd x0 b == a || v) && ((rd_T87 l1 a).f0 != (rd_T87 l1 b).f0))
  else none
theorem has_calls (k : Nat) (A0 : Option Addr) (c0 : Nat) (l0 : List (List S45)) (A1 : Option Addr) (c1 : Nat) (l1 : List S87) (A2 : Option Addr) (c2 : Nat) (l2 : List S45) (A3 : Option Addr) (c3 : Nat) (x0 : List Int) (A4 : Option Addr) (c4 : Nat) (x1 : List (List Int)) (kd a b : Int) (r : Bool) (w : World)
    (hr0 : Kd.C (Kd.slice 45 k45) w A0 l0.length l0) (hc0 : l0.length ≤ c0) (hr1 : Kd.C k87 w A1 l1.length l1) (hc1 : l1.length ≤ c1) (hr2 : Kd.C k45 w A2 l2.length l2) (hc2 : l2.length ≤ c2) (hr3 : Kd.C (Kd.int .i64) w A3 x0.length x0) (hc3 : x0.length ≤ c3) (hr4 : Kd.C (Kd.slice 3 (Kd.int .i64)) w A4 x1.length x1) (hc4 : x1.length ≤ c4)
    (h : has_f k l0 l1 l2 x0 x1 kd a b = some r) :
    Calls Tryz.prog 55 #[.agg #[.slice A0 l0.length c0, .slice A1 l1.length c1, .slice A2 l2.length c2], .agg #[.slice A3 x0.length c3, .slice A4 x1.length c4], .int .i64 kd, .int .i64 a, .int .i64 b] w fun e w' => e = .returned (.bool r) ∧ Below w.heap.size w w' := by
  unfold has_f at h
  obtain ⟨o, ho, h⟩ := Option.bind_eq_some_iff.mp h
  obtain ⟨v, hv, h⟩ := Option.bind_eq_some_iff.mp h
  split at h
  · rename_i hh
    obtain ⟨g1, g2, g3, g4, g5, g6, g7⟩ := hh
    by_cases k1 : kd = 1
    · rw [if_pos k1] at h; injection h with h; subst h
      refine (has_try k A0 c0 l0 A1 c1 l1 A2 c2 l2 A3 c3 x0 A4 c4 x1 kd a b w hr0 hc0 hr1 hc1 hr2 hc2 hr3 hc3 hr4 hc4 o v ho hv ⟨g1, g2⟩ ⟨g4, g5⟩ g7 g3 g6 _ _ false _ _ rfl rfl (wr_eq _ _ _) (rd_eq _ _ _) (fun h => absurd k1 h)).mono ?_
      rw [if_pos k1]; exact fun _ _ h => h
    · by_cases k2 : kd = 2
      · rw [if_neg k1, if_pos k2] at h; injection h with h; subst h
        refine (has_try k A0 c0 l0 A1 c1 l1 A2 c2 l2 A3 c3 x0 A4 c4 x1 kd a b w hr0 hc0 hr1 hc1 hr2 hc2 hr3 hc3 hr4 hc4 o v ho hv ⟨g1, g2⟩ ⟨g4, g5⟩ g7 g3 g6 _ _ false _ _ rfl rfl (wr_eq _ _ _) (rd_eq _ _ _) (fun _ h => absurd k2 h)).mono ?_
        rw [if_neg k1, if_pos k2]; exact fun _ _ h => h
      · rw [if_neg k1, if_neg k2] at h
        obtain ⟨q, hq, h⟩ := Option.bind_eq_some_iff.mp h
        injection h with h; subst h
        refine (has_try k A0 c0 l0 A1 c1 l1 A2 c2 l2 A3 c3 x0 A4 c4 x1 kd a b w hr0 hc0 hr1 hc1 hr2 hc2 hr3 hc3 hr4 hc4 o v ho hv ⟨g1, g2⟩ ⟨g4, g5⟩ g7 g3 g6 _ _ q _ _ rfl rfl (wr_eq _ _ _) (rd_eq _ _ _) (fun _ _ ho' => by rw [if_pos ho'] at hq; exact hq)).mono ?_
        rw [if_neg k1, if_neg k2]; exact fun _ _ h => h
  · cases h
set_option maxHeartbeats 4000000 in
set_option maxRecDepth 100000 in
theorem cl2_calls (k : Nat) (g0 g1 g2 : Nat) (A0 : Option Addr) (c0 : Nat) (l0 : List (List S45)) (A1 : Option Addr) (c1 : Nat) (l1 : List S87) (A2 : Option Addr) (c2 : Nat) (l2 : List S45) (A3 : Option Addr) (c3 : Nat) (x0 : List Int) (A4 : Option Addr) (c4 : Nat) (x1 : List (List Int)) (kd a b : Int) (r : Bool) (w : World)
    (hr0 : Kd.C (Kd.slice 45 k45) w A0 l0.length l0) (hc0 : l0.length ≤ c0) (hr1 : Kd.C k87 w A1 l1.length l1) (hc1 : l1.length ≤ c1) (hr2 : Kd.C k45 w A2 l2.length l2) (hc2 : l2.length ≤ c2) (hr3 : Kd.C (Kd.int .i64) w A3 x0.length x0) (hc3 : x0.length ≤ c3) (hr4 : Kd.C (Kd.slice 3 (Kd.int .i64)) w A4 x1.length x1) (hc4 : x1.length ≤ c4)
    (hb0 : w.heap[g0]? = some (.cells #[.slice A0 l0.length c0, .slice A1 l1.length c1, .slice A2 l2.length c2] 59 (0, 0))) (hb1 : w.heap[g1]? = some (.cells #[.slice A3 x0.length c3, .slice A4 x1.length c4] 65 (0, 0))) (hb2 : w.heap[g2]? = some (.cells #[.int .i64 kd] 3 (0, 0)))
    (h : has_f k l0 l1 l2 x0 x1 kd a b = some r) :
    Calls Tryz.prog 54 #[.int .i64 a, .int .i64 b, .pointer (some ⟨g0, 0, none⟩), .pointer (some ⟨g1, 0, none⟩), .pointer (some ⟨g2, 0, none⟩)] w fun e w' => e = .returned (.bool r) ∧ Below w.heap.size w w' := by
  have p0 := cf0 hb0
  have p1 := cf1 hb0
  have p2 := cf2 hb0
  have p3 := cf0 hb1
  have p4 := cf1 hb1
  have p5 := cf0 hb2
  have hc := has_calls k A0 c0 l0 A1 c1 l1 A2 c2 l2 A3 c3 x0 A4 c4 x1 kd a b r w hr0 hc0 hr1 hc1 hr2 hc2 hr3 hc3 hr4 hc4 h
  have HC := am_ hc
  clear hc hb0 hb1 hb2 hr0 hr1 hr2 hr3 hr4 h
  go_enter Tryz.func54, Tryz.ntmps54
  go_wp2_with (go_at_call 55; (with_reducible refine HC.out.mono ?_); rintro e w6 ⟨rfl, hb6⟩; have HB := am_ hb6; clear hb6)
  go_ret
  exact ⟨rfl, HB.out⟩
end Go.Proofs.YtmkchdlkpbnldaaGreatDoor.PB
namespace Go.Proofs.YtmkchdlkpbnldaaGreatDoor.PB
open Go.RowKit Go.Proofs.YtmkchdlkpbnldaaGreatDoorW.PrintWords Go.Proofs.YtmkchdlkpbnldaaGreatDoorW.PrintLast Go.Proofs.YtmkchdlkpbnldaaGreatDoorW.PrintMore
attribute [local go_sem] max2_int min2_int max_two min_two max_three min_three max_four min_four
open Go.Proofs.YtmkchdlkpbnldaaGreatDoorMine
set_option linter.unusedVariables false
set_option linter.unusedSimpArgs false
theorem z24_1 {p : Prop} (h : p := by first | rfl | (simp; done) | (simp [*]; done)) : p := h
theorem z24_2 {p : Prop} (h : p := by first | (with_reducible assumption) | assumption) : p := h
theorem z24_3 {p : Prop} (h : p := by first | rfl | (simp [errW_none, errW_some] <;> rfl) | (simp [*, errW_none, errW_some] <;> rfl)) : p := h
mutual
def impl_ProgOk.l0 : Nat → Int → Int → List (List (S45)) → Int → Int → Option (Bool)
  | 0, _, _, _, _, _ => none
  | k + 1, x3, x4, x14, x15, x16 => if x16 < x15 then (if 0 ≤ x16 then (if x16 < (x14.length : Int) then ((impl_threadOk.f k (rd_L3 x14 x16)).bind fun t364 => (if t364 = true then (impl_ProgOk.l1 k (wrap64 (x3 + ((rd_L3 x14 x16).length : Int))) x4 x14 x15 x16 (rd_L3 x14 x16) ((rd_L3 x14 x16).length : Int) 0) else (some false))) else (none)) else (none)) else (if x3 ≤ 14 then (some (decide (x4 ≤ 6))) else (some false))
def impl_ProgOk.l1 : Nat → Int → Int → List (List (S45)) → Int → Int → List (S45) → Int → Int → Option (Bool)
  | 0, _, _, _, _, _, _, _, _ => none
  | k + 1, x3, x4, x14, x15, x16, x27, x28, x29 => if x29 < x28 then (if 0 ≤ x29 then (if x29 < (x27.length : Int) then ((impl_Do_uses.f ((rd_T45 x27 x29).f0) ((rd_T45 x27 x29).f1) ((rd_T45 x27 x29).f2)).bind fun t367 => (if t367 = true then (impl_ProgOk.l1 k x3 (wrap64 (x4 + 1)) x14 x15 x16 x27 x28 (wrap64 (x29 + 1))) else (impl_ProgOk.l1 k x3 x4 x14 x15 x16 x27 x28 (wrap64 (x29 + 1))))) else (none)) else (none)) else (impl_ProgOk.l0 k x3 x4 x14 x15 (wrap64 (x16 + 1)))
end
def impl_ProgOk.f (k : Nat) (l0_0 : List (List (S45))) : Option (Bool) := if (l0_0.length : Int) > 3 then (some false) else (impl_ProgOk.l0 k 0 0 l0_0 (l0_0.length : Int) 0)
set_option maxHeartbeats 8000000 in
set_option maxRecDepth 100000 in
theorem impl_ProgOk.calls (k : Nat) (A0_0 : Option Addr) (c0_0 : Nat) (l0_0 : List (List (S45))) (r : Bool) (w : World) (hr0_0 : Kd.C (Kd.slice 45 k45) w A0_0 l0_0.length l0_0) (hc0_0 : l0_0.length ≤ c0_0) (h : impl_ProgOk.f k l0_0 = some r) :
  Calls Tryz.prog 24 #[.agg #[.slice A0_0 l0_0.length c0_0]] w fun e w' => e = .returned (.bool r) ∧ Below w.heap.size w w' := by
 have hu27 := Tryz.underlying27; have hu45 := Tryz.underlying45; have HR0_0 := am_ hr0_0; have HC0_0 := am_ hc0_0; clear hr0_0 hc0_0; have HB := am_ (Below.refl w.heap.size w); have H : (if (l0_0.length : Int) > 3 then (some false) else (impl_ProgOk.l0 k 0 0 l0_0 (l0_0.length : Int) 0)) = some r := h; clear h; by_cases c2 : (l0_0.length : Int) > 3
 ·rw [if_pos c2] at H; have c2b0 := decide_eq_true c2; have c2b1 : decide (3 < l0_0.length) = true := decide_eq_true (by omega); clear c2; obtain rfl := Option.some.inj H; go_enter Tryz.func24, Tryz.ntmps24; go_wp2_with (first | ((with_reducible refine gd 1 ?_); refine boxR w 1 #[.slice A0_0 l0_0.length c0_0] 27 ?_; clear HB; intro gb362 hg GE362 w3 BK362 hb HB; clear hb hg; obtain ⟨_, _⟩ := cz1 BK362))
  go_ret; exact ⟨z24_3, hh⟩
 rw [if_neg c2] at H; have c2b0 := decide_eq_false c2; have c2b1 : decide (3 < l0_0.length) = false := decide_eq_false (by omega); clear c2; have H' := am_ H; clear H; go_enter Tryz.func24, Tryz.ntmps24; go_wp2_with (first | ((with_reducible refine gd 1 ?_); refine boxR w 1 #[.slice A0_0 l0_0.length c0_0] 27 ?_; clear HB; intro gb362 hg GE362 w5 BK362 hb HB; clear hb hg; obtain ⟨_, _⟩ := cz1 BK362))
 go_loopg [3, 4, 16] k (fun kq v3 v4 v16 w' => ∃ (x3_1 : Int) (x4_1 : Int) (x16_1 : Int), v3 = .int .i64 x3_1 ∧ v4 = .int .i64 x4_1 ∧ v16 = .int .i64 x16_1 ∧ Aside0 (impl_ProgOk.l0 kq x3_1 x4_1 l0_0 (l0_0.length : Int) x16_1 = some r) ∧ Aside0 (kq ≤ k) ∧ Aside0 (w'.heap[gb362]? = some (.cells #[(.slice A0_0 l0_0.length c0_0)] 27 (0, 0))) ∧ Aside0 (Below w.heap.size w w'))
 case atStart => exact ⟨(0), (0), (0), z24_1, z24_1, z24_1, H', ⟨Nat.le_refl _⟩, ⟨bu BK362.out⟩, ⟨hh⟩⟩
 case round =>
  clear H'; obtain ⟨x3_1, x4_1, x16_1, rfl, rfl, rfl, HA, HK1, BK362, HB⟩ := hrel
  cases gk with
  | zero => exact absurd HA.out (by simp [impl_ProgOk.l0])
  | succ k1 =>
   have H := HA.out; clear HA; simp only [impl_ProgOk.l0] at H; by_cases c7 : x16_1 < (l0_0.length : Int)
   ·rw [if_pos c7] at H; have c7b0 := decide_eq_true c7; clear c7; by_cases c8 : 0 ≤ x16_1
    ·rw [if_pos c8] at H; have c8b0 := decide_eq_true c8; clear c8; by_cases c9 : x16_1 < (l0_0.length : Int)
     ·rw [if_pos c9] at H; have c9b0 := decide_eq_true c9; clear c9; replace H := Option.bind_eq_some_iff.mp H; obtain ⟨t364, A100, H⟩ := H; replace H : (if t364 = true then (impl_ProgOk.l1 k1 (wrap64 (x3_1 + ((rd_L3 l0_0 x16_1).length : Int))) x4_1 l0_0 (l0_0.length : Int) x16_1 (rd_L3 l0_0 x16_1) ((rd_L3 l0_0 x16_1).length : Int) 0) else (some false)) = some r := H; have A10 := am_ A100; clear A100; by_cases c11 : t364 = true
      ·subst c11; rw [if_pos rfl] at H; have H' := am_ H; clear H; have p363 : 0 ≤ (x16_1 : Int) := of_decide_eq_true z24_2; have q363 : x16_1 < (l0_0.length : Int) := of_decide_eq_true z24_2; obtain ⟨ad363, A363_0, c363_0, e363, hx363_0, hl363_0, hi363_0⟩ := at_L3 HR0_0.out x16_1 p363 q363; cases e363; replace hx363_0 := xc HB hx363_0; have HR363_0 := am_ hi363_0; have HC363_0 := am_ hl363_0; clear hi363_0 hl363_0; replace p363 := eq_true p363; replace q363 := eq_true q363; go_wp2_with (first | ((with_reducible refine gc 42 ?_); refine goesQ 21 Tryz.func42 #[.slice A363_0 (rd_L3 l0_0 x16_1).length c363_0] ?_; (with_reducible refine (impl_threadOk.calls k1 _ _ (rd_L3 l0_0 x16_1) true _ ?side1 ?side2 A10.out).mono ?_); (case side1 => exact cs HR363_0 HB); (case side2 => exact HC363_0.out); rintro e w12 ⟨rfl, hb⟩; refine ⟨_, rfl, ?_⟩; replace BK362 := bk BK362 hb; replace HB := hs hb; clear hb))
       go_loopg [4, 29] k1 (fun kq v4 v29 w' => ∃ (x4_2 : Int) (x29_2 : Int), v4 = .int .i64 x4_2 ∧ v29 = .int .i64 x29_2 ∧ Aside0 (impl_ProgOk.l1 kq (wrap64 (x3_1 + ((rd_L3 l0_0 x16_1).length : Int))) x4_2 l0_0 (l0_0.length : Int) x16_1 (rd_L3 l0_0 x16_1) ((rd_L3 l0_0 x16_1).length : Int) x29_2 = some r) ∧ Aside0 (kq ≤ k1) ∧ Aside0 (w'.heap[gb362]? = some (.cells #[(.slice (some ad363) l0_0.length c0_0)] 27 (0, 0))) ∧ Aside0 (Below w.heap.size w w'))
       case atStart => exact ⟨(x4_1), (0), z24_1, z24_1, H', ⟨Nat.le_refl _⟩, ⟨bu BK362.out⟩, ⟨hh⟩⟩
       case round =>
        clear H'; obtain ⟨x4_2, x29_2, rfl, rfl, HA, HK2, BK362, HB⟩ := hrel
        cases gk with
        | zero => exact absurd HA.out (by simp [impl_ProgOk.l1])
        | succ k2 =>
         have H := HA.out; clear HA; simp only [impl_ProgOk.l1] at H; by_cases c13 : x29_2 < ((rd_L3 l0_0 x16_1).length : Int)
         ·rw [if_pos c13] at H; have c13b0 := decide_eq_true c13; clear c13; by_cases c14 : 0 ≤ x29_2
          ·rw [if_pos c14] at H; have c14b0 := decide_eq_true c14; clear c14; by_cases c15 : x29_2 < ((rd_L3 l0_0 x16_1).length : Int)
           ·rw [if_pos c15] at H; have c15b0 := decide_eq_true c15; clear c15; replace H := Option.bind_eq_some_iff.mp H; obtain ⟨t367, A160, H⟩ := H; replace H : (if t367 = true then (impl_ProgOk.l1 k2 (wrap64 (x3_1 + ((rd_L3 l0_0 x16_1).length : Int))) (wrap64 (x4_2 + 1)) l0_0 (l0_0.length : Int) x16_1 (rd_L3 l0_0 x16_1) ((rd_L3 l0_0 x16_1).length : Int) (wrap64 (x29_2 + 1))) else (impl_ProgOk.l1 k2 (wrap64 (x3_1 + ((rd_L3 l0_0 x16_1).length : Int))) x4_2 l0_0 (l0_0.length : Int) x16_1 (rd_L3 l0_0 x16_1) ((rd_L3 l0_0 x16_1).length : Int) (wrap64 (x29_2 + 1)))) = some r := H; have A16 := am_ A160; clear A160; by_cases c17 : t367 = true
            ·subst c17; rw [if_pos rfl] at H; have H' := am_ H; clear H; have p365 : 0 ≤ (x29_2 : Int) := of_decide_eq_true z24_2; have q365 : x29_2 < ((rd_L3 l0_0 x16_1).length : Int) := of_decide_eq_true z24_2; obtain ⟨ad365, e365, hx365_0, hx365_1, hx365_2⟩ := at_T45 HR363_0.out x29_2 p365 q365; cases e365; replace hx365_0 := xc HB hx365_0; replace hx365_1 := xc HB hx365_1; replace hx365_2 := xc HB hx365_2; replace p365 := eq_true p365; replace q365 := eq_true q365; go_wp2_with (first | ((with_reducible refine gd 8 ?_); refine boxR w 8 #[.int .i64 0, .int .i64 0, .int .i64 0] 45 ?_; clear HB; intro gb366 hg GE366 w18 BK366 hb HB; obtain ⟨NB362_366, NB366_362⟩ := nb BK362 hg; replace BK362 := bk BK362 hb; clear hb hg; obtain ⟨_, _⟩ := n2 NB366_362; obtain ⟨_, _, _, _, _, _⟩ := cz3 BK366) | ((with_reducible refine gc 43 ?_); refine goesQ 34 Tryz.func43 #[.agg #[.int .i64 ((rd_T45 (rd_L3 l0_0 x16_1) x29_2).f0), .int .i64 ((rd_T45 (rd_L3 l0_0 x16_1) x29_2).f1), .int .i64 ((rd_T45 (rd_L3 l0_0 x16_1) x29_2).f2)]] ?_; (with_reducible refine (impl_Do_uses.calls ((rd_T45 (rd_L3 l0_0 x16_1) x29_2).f0) ((rd_T45 (rd_L3 l0_0 x16_1) x29_2).f1) ((rd_T45 (rd_L3 l0_0 x16_1) x29_2).f2) true _ A16.out).mono ?_); rintro e w21 ⟨rfl, hb⟩; refine ⟨_, rfl, ?_⟩; replace BK362 := bf BK362 hb; replace BK366 := bo gb366 45 #[.int .i64 ((rd_T45 (rd_L3 l0_0 x16_1) x29_2).f0), .int .i64 ((rd_T45 (rd_L3 l0_0 x16_1) x29_2).f1), .int .i64 ((rd_T45 (rd_L3 l0_0 x16_1) x29_2).f2)] hb; replace HB := hs hb; clear hb))
             go_roundg k2
             case measure => have := HK1.out; have := HK2.out; omega
             case rel => exact ⟨(wrap64 (x4_2 + 1)), (wrap64 (x29_2 + 1)), z24_1, z24_1, H', ⟨by have := HK1.out; have := HK2.out; omega⟩, ⟨bu BK362.out⟩, ⟨hh⟩⟩
            replace c17 := Bool.eq_false_iff.mpr c17; subst c17; rw [if_neg Bool.false_ne_true] at H; have H' := am_ H; clear H; have p365 : 0 ≤ (x29_2 : Int) := of_decide_eq_true z24_2; have q365 : x29_2 < ((rd_L3 l0_0 x16_1).length : Int) := of_decide_eq_true z24_2; obtain ⟨ad365, e365, hx365_0, hx365_1, hx365_2⟩ := at_T45 HR363_0.out x29_2 p365 q365; cases e365; replace hx365_0 := xc HB hx365_0; replace hx365_1 := xc HB hx365_1; replace hx365_2 := xc HB hx365_2; replace p365 := eq_true p365; replace q365 := eq_true q365; go_wp2_with (first | ((with_reducible refine gd 8 ?_); refine boxR w 8 #[.int .i64 0, .int .i64 0, .int .i64 0] 45 ?_; clear HB; intro gb366 hg GE366 w22 BK366 hb HB; obtain ⟨NB362_366, NB366_362⟩ := nb BK362 hg; replace BK362 := bk BK362 hb; clear hb hg; obtain ⟨_, _⟩ := n2 NB366_362; obtain ⟨_, _, _, _, _, _⟩ := cz3 BK366) | ((with_reducible refine gc 43 ?_); refine goesQ 34 Tryz.func43 #[.agg #[.int .i64 ((rd_T45 (rd_L3 l0_0 x16_1) x29_2).f0), .int .i64 ((rd_T45 (rd_L3 l0_0 x16_1) x29_2).f1), .int .i64 ((rd_T45 (rd_L3 l0_0 x16_1) x29_2).f2)]] ?_; (with_reducible refine (impl_Do_uses.calls ((rd_T45 (rd_L3 l0_0 x16_1) x29_2).f0) ((rd_T45 (rd_L3 l0_0 x16_1) x29_2).f1) ((rd_T45 (rd_L3 l0_0 x16_1) x29_2).f2) false _ A16.out).mono ?_); rintro e w25 ⟨rfl, hb⟩; refine ⟨_, rfl, ?_⟩; replace BK362 := bf BK362 hb; replace BK366 := bo gb366 45 #[.int .i64 ((rd_T45 (rd_L3 l0_0 x16_1) x29_2).f0), .int .i64 ((rd_T45 (rd_L3 l0_0 x16_1) x29_2).f1), .int .i64 ((rd_T45 (rd_L3 l0_0 x16_1) x29_2).f2)] hb; replace HB := hs hb; clear hb))
            go_roundg k2
            case measure => have := HK1.out; have := HK2.out; omega
            case rel => exact ⟨(x4_2), (wrap64 (x29_2 + 1)), z24_1, z24_1, H', ⟨by have := HK1.out; have := HK2.out; omega⟩, ⟨bu BK362.out⟩, ⟨hh⟩⟩
           rw [if_neg c15] at H; exact absurd H (by simp)
          rw [if_neg c14] at H; exact absurd H (by simp)
         rw [if_neg c13] at H; have c13b0 := decide_eq_false c13; clear c13; have H' := am_ H; clear H; go_wp2; go_roundg k2
         case measure => have := HK1.out; have := HK2.out; omega
         case rel => exact ⟨((wrap64 (x3_1 + ((rd_L3 l0_0 x16_1).length : Int)))), (x4_2), (wrap64 (x16_1 + 1)), z24_1, z24_1, z24_1, H', ⟨by have := HK1.out; have := HK2.out; omega⟩, ⟨bu BK362.out⟩, ⟨hh⟩⟩
      replace c11 := Bool.eq_false_iff.mpr c11; subst c11; rw [if_neg Bool.false_ne_true] at H; obtain rfl := Option.some.inj H; have p363 : 0 ≤ (x16_1 : Int) := of_decide_eq_true z24_2; have q363 : x16_1 < (l0_0.length : Int) := of_decide_eq_true z24_2; obtain ⟨ad363, A363_0, c363_0, e363, hx363_0, hl363_0, hi363_0⟩ := at_L3 HR0_0.out x16_1 p363 q363; cases e363; replace hx363_0 := xc HB hx363_0; have HR363_0 := am_ hi363_0; have HC363_0 := am_ hl363_0; clear hi363_0 hl363_0; replace p363 := eq_true p363; replace q363 := eq_true q363; go_wp2_with (first | ((with_reducible refine gc 42 ?_); refine goesQ 21 Tryz.func42 #[.slice A363_0 (rd_L3 l0_0 x16_1).length c363_0] ?_; (with_reducible refine (impl_threadOk.calls k1 _ _ (rd_L3 l0_0 x16_1) false _ ?side1 ?side2 A10.out).mono ?_); (case side1 => exact cs HR363_0 HB); (case side2 => exact HC363_0.out); rintro e w26 ⟨rfl, hb⟩; refine ⟨_, rfl, ?_⟩; replace BK362 := bk BK362 hb; replace HB := hs hb; clear hb))
      go_ret; exact ⟨z24_3, hh⟩
     rw [if_neg c9] at H; exact absurd H (by simp)
    rw [if_neg c8] at H; exact absurd H (by simp)
   rw [if_neg c7] at H; have c7b0 := decide_eq_false c7; clear c7; by_cases c27 : x3_1 ≤ 14
   ·rw [if_pos c27] at H; have c27b0 := decide_eq_true c27; clear c27; obtain rfl := Option.some.inj H; go_wp2; go_ret; exact ⟨z24_3, hh⟩
   rw [if_neg c27] at H; have c27b0 := decide_eq_false c27; clear c27; obtain rfl := Option.some.inj H; go_wp2; go_ret; exact ⟨z24_3, hh⟩
end Go.Proofs.YtmkchdlkpbnldaaGreatDoor.PB
namespace Go.Proofs.YtmkchdlkpbnldaaGreatDoor.PB
open Go.RowKit Go.Proofs.YtmkchdlkpbnldaaGreatDoorW.PrintWords Go.Proofs.YtmkchdlkpbnldaaGreatDoorW.PrintLast Go.Proofs.YtmkchdlkpbnldaaGreatDoorW.PrintMore
open Go.Proofs.YtmkchdlkpbnldaaGreatDoorMine
set_option linter.unusedVariables false
set_option linter.unusedSimpArgs false
def usB (x : Int) : Bool := x == 2 || x == 5 || (x == 1 || x == 3 || x == 6)
theorem us_eq (x y z : Int) : impl_Do_uses.f x y z = some (usB x) := by
  unfold impl_Do_uses.f usB
  rw [rd_eq, wr_eq]
  simp only [Option.bind_some]
  split <;> simp_all
def cl1_f (k : Nat) (l0 : List (List S45)) (l1 : List S87) (l2 : List S45) (x0 : List Int) (x1 : List (List Int)) (a b : Int) : Option Bool :=
  if 0 ≤ a ∧ a < l2.length ∧ 0 ≤ b ∧ b < l2.length ∧ b < x0.length then
    (if usB (rd_T45 l2 a).f0 && usB (rd_T45 l2 b).f0 && (rd_T45 l2 a).f1 == (rd_T45 l2 b).f1 then impl_scene_own.f l0 l1 l2 a b else some false).bind fun o =>
    if (o || rd x0 b == a) = true then some true else impl_scene_over.f k l0 l1 l2 x0 x1 a b
  else none
def cl1_T1 : Bool × List (List Nat × List Nat) := (true, [([], []), ([0], [0]), ([], []), ([1, 2], [1, 2]), ([3], [3]), ([4], [4]), ([5, 5], [5]), ([6], [6]), ([7, 6], [6, 7]), ([6], [6]), ([8, 9, 6], [6, 8, 9]), ([10, 6], [6, 10]), ([11, 6, 6], [6, 11]), ([6, 12], [6, 12]), ([13, 12], [13]), ([14], [14]), ([15, 14], [14, 15]), ([14], [14]), ([16, 17, 14], [14, 16, 17]), ([18, 14], [14, 18]), ([19, 14], [14, 19]), ([14], [14]), ([21, 14], [14, 21]), ([14], [14]), ([22, 23, 14], [14, 22, 23]), ([24, 14], [14, 24]), ([25, 14], [14, 25]), ([20, 26, 14], [14, 20, 26]), ([14, 27], [14, 27]), ([28, 14, 0, 1, 2, 3, 4, 5, 6, 7, 8, 9, 10, 11, 12, 13, 14, 15, 16, 17, 18, 19, 20, 21, 22, 23, 24, 25, 26, 27, 28], [28])])
def cl1_B1 : List Nat := [0, 1, 0, 7, 15, 31, 63, 127, 255, 127, 1023, 2047, 4095, 8191, 16383, 32767, 65535, 32767, 262143, 524287, 1048575, 32767, 2129919, 32767, 14712831, 31490047, 65044479, 134217727, 268435455, 536870911]
theorem cl1_tab1 : rtab .any (opsOf Tryz.f50 1) = cl1_T1 := by kernel_rfl
theorem cl1_bits1 : waitsOk cl1_T1.2 cl1_B1 = true := by kernel_rfl
set_option maxHeartbeats 4000000 in
set_option maxRecDepth 100000 in
theorem cl1_calls (k : Nat) (g0 g1 : Nat) (A0 : Option Addr) (c0 : Nat) (l0 : List (List S45)) (A1 : Option Addr) (c1 : Nat) (l1 : List S87) (A2 : Option Addr) (c2 : Nat) (l2 : List S45) (A3 : Option Addr) (c3 : Nat) (x0 : List Int) (A4 : Option Addr) (c4 : Nat) (x1 : List (List Int)) (a b : Int) (r : Bool) (w : World)
    (hr0 : Kd.C (Kd.slice 45 k45) w A0 l0.length l0) (hc0 : l0.length ≤ c0) (hr1 : Kd.C k87 w A1 l1.length l1) (hc1 : l1.length ≤ c1) (hr2 : Kd.C k45 w A2 l2.length l2) (hc2 : l2.length ≤ c2) (hr3 : Kd.C (Kd.int .i64) w A3 x0.length x0) (hc3 : x0.length ≤ c3) (hr4 : Kd.C (Kd.slice 3 (Kd.int .i64)) w A4 x1.length x1) (hc4 : x1.length ≤ c4)
    (hb0 : w.heap[g0]? = some (.cells #[.slice A0 l0.length c0, .slice A1 l1.length c1, .slice A2 l2.length c2] 59 (0, 0))) (hb1 : w.heap[g1]? = some (.cells #[.slice A3 x0.length c3, .slice A4 x1.length c4] 65 (0, 0)))
    (h : cl1_f k l0 l1 l2 x0 x1 a b = some r) :
    Calls Tryz.prog 50 #[.int .i64 a, .int .i64 b, .pointer (some ⟨g0, 0, none⟩), .pointer (some ⟨g1, 0, none⟩)] w fun e w' => e = .returned (.bool r) ∧ Below w.heap.size w w' := by
  unfold cl1_f at h
  split at h
  case isFalse => cases h
  rename_i hh
  obtain ⟨n1, n2, n3, n4, n5⟩ := hh
  obtain ⟨o, ho, hfin⟩ := Option.bind_eq_some_iff.mp h
  clear h
  have Hua := am_ (us_eq (rd_T45 l2 a).f0 (rd_T45 l2 a).f1 (rd_T45 l2 a).f2)
  have Hub := am_ (us_eq (rd_T45 l2 b).f0 (rd_T45 l2 b).f1 (rd_T45 l2 b).f2)
  obtain ⟨ad2, rfl, hx0, hx1, hx2⟩ := at_T45 hr2 a n1 n2
  obtain ⟨ad2', he, hy0, hy1, hy2⟩ := at_T45 hr2 b n3 n4
  obtain rfl : ad2 = ad2' := by injection he
  obtain ⟨ad3, rfl, hz⟩ := Kd.at_int hr3 b n3 n5
  clear he
  have HB := am_ (below_drew1 (Below.refl w.heap.size w))
  have BK0 := am_ (blk_drew hb0)
  have BK1 := am_ (blk_drew hb1)
  have H0 := am_ hr0; have H1 := am_ hr1; have H2 := am_ hr2; have H3 := am_ hr3; have H4 := am_ hr4
  clear hr0 hr1 hr2 hr3 hr4 hb0 hb1
  generalize hua : usB (rd_T45 l2 a).f0 = ua at *
  generalize hub : usB (rd_T45 l2 b).f0 = ub at *
  generalize hpl : ((rd_T45 l2 a).f1 == (rd_T45 l2 b).f1) = pl at *
  generalize hq : (rd x0 b == a) = q at *
  have Hpl := am_ hpl; have Hq := am_ hq; have Ho := am_ ho; have Hh := am_ hfin
  have HZ := am_ hz
  clear hua hub hpl hq ho hfin hz
  have p0 := cf2 BK0.out
  have p1 : w.drew.cell? (ad2.add (a.toNat * 3)) = _ := hx0
  have p2 : w.drew.cell? ⟨(ad2.add (a.toNat * 3)).block, (ad2.add (a.toNat * 3)).off + 1, none⟩ = _ := hx1
  have p3 : w.drew.cell? ⟨(ad2.add (a.toNat * 3)).block, (ad2.add (a.toNat * 3)).off + 2, none⟩ = _ := hx2
  have p4 : w.drew.cell? (ad2.add (b.toNat * 3)) = _ := hy0
  have p5 : w.drew.cell? ⟨(ad2.add (b.toNat * 3)).block, (ad2.add (b.toNat * 3)).off + 1, none⟩ = _ := hy1
  have p6 : w.drew.cell? ⟨(ad2.add (b.toNat * 3)).block, (ad2.add (b.toNat * 3)).off + 2, none⟩ = _ := hy2
  clear hx0 hx1 hx2 hy0 hy1 hy2
  replace n1 := eq_true n1; replace n2 := eq_true n2; replace n3 := eq_true n3; replace n4 := eq_true n4; replace n5 := eq_true n5
  go_enter Tryz.func50, Tryz.ntmps50
  go_wp2_with fail
  refine start_ (n := 30) (S := fun W => W.cell? ⟨g0, 2, none⟩ = some (.slice (some ad2) l2.length c2) ∧ W.cell? (ad2.add (a.toNat * 3)) = some (.int .i64 (rd_T45 l2 a).f0) ∧ W.cell? ⟨(ad2.add (a.toNat * 3)).block, (ad2.add (a.toNat * 3)).off + 1, none⟩ = some (.int .i64 (rd_T45 l2 a).f1) ∧ W.cell? ⟨(ad2.add (a.toNat * 3)).block, (ad2.add (a.toNat * 3)).off + 2, none⟩ = some (.int .i64 (rd_T45 l2 a).f2) ∧ W.cell? (ad2.add (b.toNat * 3)) = some (.int .i64 (rd_T45 l2 b).f0) ∧ W.cell? ⟨(ad2.add (b.toNat * 3)).block, (ad2.add (b.toNat * 3)).off + 1, none⟩ = some (.int .i64 (rd_T45 l2 b).f1) ∧ W.cell? ⟨(ad2.add (b.toNat * 3)).block, (ad2.add (b.toNat * 3)).off + 2, none⟩ = some (.int .i64 (rd_T45 l2 b).f2)) (ds := []) _ (by kernel_rfl) rfl rfl ⟨p0, p1, p2, p3, p4, p5, p6⟩ (fun hHeld => ?_)
  refine with_tabW cl1_tab1 cl1_bits1 (fun HT_ HW_ => ?_)
  generalize w.drew = w2 at *
  refine pu 0 8 ?_
  refine ld 1 9 ?_
  refine pu 2 10 ?_
  refine pu 3 11 ?_
  refine ld 4 12 ?_
  refine cal 5 13 Tryz.func43 #[.agg #[.int .i64 (rd_T45 l2 a).f0, .int .i64 (rd_T45 l2 a).f1, .int .i64 (rd_T45 l2 a).f2]] ?_
  refine (impl_Do_uses.calls _ _ _ _ _ Hua.out).mono ?_
  rintro e w3 ⟨rfl, hb3⟩
  replace p0 := pw_cell_below hb3 p0; replace p1 := pw_cell_below hb3 p1; replace p2 := pw_cell_below hb3 p2; replace p3 := pw_cell_below hb3 p3; replace p4 := pw_cell_below hb3 p4; replace p5 := pw_cell_below hb3 p5; replace p6 := pw_cell_below hb3 p6; replace HB := am_ (below_step HB.out hb3); replace BK0 := am_ (blk_below BK0.out hb3); replace BK1 := am_ (blk_below BK1.out hb3); clear hb3
  refine ⟨_, rfl, ⟨p0, p1, p2, p3, p4, p5, p6⟩, fun a1 ha1 hHeld => ?_⟩
  simp only [Act.put, List.setIfInBounds_toArray, List.set_cons_zero, List.set_cons_succ] at ha1
  subst ha1
  refine pu 6 14 ?_
  cases ua
  · refine pu 7 15 ?_
    refine pu 8 16 ?_
    refine pu 9 17 ?_
    refine pu 10 18 ?_
    refine pu 11 19 ?_
    refine pu 12 20 ?_
    refine pu 13 21 ?_
    refine pu 14 22 ?_
    refine pu 15 23 ?_
    refine pu 16 24 ?_
    refine pu 17 25 ?_
    refine pu 18 26 ?_
    refine pu 19 27 ?_
    refine pu 20 28 ?_
    refine pu 21 29 ?_
    refine pu 22 30 ?_
    refine pu 23 31 ?_
    refine pu 24 32 ?_
    refine pu 25 33 ?_
    refine pu 26 34 ?_
    refine pu 27 35 ?_
    refine pu 28 36 ?_
    refine pu 29 7 ?_
    refine fin ?_
    obtain rfl : false = o := Option.some.inj (show some false = some o from Ho.out)
    clear p0 p1 p2 p3 p4 p5 p6
    have p0 := cf0 BK0.out
    have p1 := cf1 BK0.out
    have p2 := cf2 BK0.out
    have p3 := cf0 BK1.out
    have p4 := cf1 BK1.out
    have p5 := (HB.out.cell (World.block_lt_of_cell? w _ HZ.out)).trans HZ.out
    clear HZ hHeld
    cases q
    · have Hh := am_ (show impl_scene_over.f k l0 l1 l2 x0 x1 a b = some r from Hh.out)
      have hq1 := Hq.out
      go_wp2_with (first | (go_at_call 52; (with_reducible refine (impl_scene_over.calls k _ _ l0 _ _ l1 _ _ l2 _ _ x0 _ _ x1 a b r _ (Kd.C_below H0.out HB.out) hc0 (Kd.C_below H1.out HB.out) hc1 (Kd.C_below H2.out HB.out) hc2 (Kd.C_below H3.out HB.out) hc3 (Kd.C_below H4.out HB.out) hc4 Hh.out).mono ?_); rintro e w5 ⟨rfl, hb3⟩; replace HB := am_ (below_step HB.out hb3); clear hb3))
      all_goals (go_ret; exact ⟨rfl, HB.out⟩)
    · obtain rfl : true = r := Option.some.inj (show some true = some r from Hh.out)
      have hq1 := Hq.out
      go_wp2_with (first | (go_at_call 52; (with_reducible refine (impl_scene_over.calls k _ _ l0 _ _ l1 _ _ l2 _ _ x0 _ _ x1 a b r _ (Kd.C_below H0.out HB.out) hc0 (Kd.C_below H1.out HB.out) hc1 (Kd.C_below H2.out HB.out) hc2 (Kd.C_below H3.out HB.out) hc3 (Kd.C_below H4.out HB.out) hc4 Hh.out).mono ?_); rintro e w5 ⟨rfl, hb3⟩; replace HB := am_ (below_step HB.out hb3); clear hb3))
      all_goals (go_ret; exact ⟨rfl, HB.out⟩)
  · refine pu 7 15 ?_
    refine ld 8 16 ?_
    refine pu 9 17 ?_
    refine pu 10 18 ?_
    refine ld 11 19 ?_
    refine cal 12 20 Tryz.func43 #[.agg #[.int .i64 (rd_T45 l2 b).f0, .int .i64 (rd_T45 l2 b).f1, .int .i64 (rd_T45 l2 b).f2]] ?_
    refine (impl_Do_uses.calls _ _ _ _ _ Hub.out).mono ?_
    rintro e w3 ⟨rfl, hb3⟩
    replace p0 := pw_cell_below hb3 p0; replace p1 := pw_cell_below hb3 p1; replace p2 := pw_cell_below hb3 p2; replace p3 := pw_cell_below hb3 p3; replace p4 := pw_cell_below hb3 p4; replace p5 := pw_cell_below hb3 p5; replace p6 := pw_cell_below hb3 p6; replace HB := am_ (below_step HB.out hb3); replace BK0 := am_ (blk_below BK0.out hb3); replace BK1 := am_ (blk_below BK1.out hb3); clear hb3
    refine ⟨_, rfl, ⟨p0, p1, p2, p3, p4, p5, p6⟩, fun a1 ha1 hHeld => ?_⟩
    simp only [Act.put, List.setIfInBounds_toArray, List.set_cons_zero, List.set_cons_succ] at ha1
    subst ha1
    refine pu 13 21 ?_
    refine pu 14 22 ?_
    cases ub
    · refine pu 15 23 ?_
      refine pu 16 24 ?_
      refine pu 17 25 ?_
      refine pu 18 26 ?_
      refine pu 19 27 ?_
      refine pu 20 28 ?_
      refine pu 21 29 ?_
      refine pu 22 30 ?_
      refine pu 23 31 ?_
      refine pu 24 32 ?_
      refine pu 25 33 ?_
      refine pu 26 34 ?_
      refine pu 27 35 ?_
      refine pu 28 36 ?_
      refine pu 29 7 ?_
      refine fin ?_
      obtain rfl : false = o := Option.some.inj (show some false = some o from Ho.out)
      clear p0 p1 p2 p3 p4 p5 p6
      have p0 := cf0 BK0.out
      have p1 := cf1 BK0.out
      have p2 := cf2 BK0.out
      have p3 := cf0 BK1.out
      have p4 := cf1 BK1.out
      have p5 := (HB.out.cell (World.block_lt_of_cell? w _ HZ.out)).trans HZ.out
      clear HZ hHeld
      cases q
      · have Hh := am_ (show impl_scene_over.f k l0 l1 l2 x0 x1 a b = some r from Hh.out)
        have hq1 := Hq.out
        go_wp2_with (first | (go_at_call 52; (with_reducible refine (impl_scene_over.calls k _ _ l0 _ _ l1 _ _ l2 _ _ x0 _ _ x1 a b r _ (Kd.C_below H0.out HB.out) hc0 (Kd.C_below H1.out HB.out) hc1 (Kd.C_below H2.out HB.out) hc2 (Kd.C_below H3.out HB.out) hc3 (Kd.C_below H4.out HB.out) hc4 Hh.out).mono ?_); rintro e w5 ⟨rfl, hb3⟩; replace HB := am_ (below_step HB.out hb3); clear hb3))
        all_goals (go_ret; exact ⟨rfl, HB.out⟩)
      · obtain rfl : true = r := Option.some.inj (show some true = some r from Hh.out)
        have hq1 := Hq.out
        go_wp2_with (first | (go_at_call 52; (with_reducible refine (impl_scene_over.calls k _ _ l0 _ _ l1 _ _ l2 _ _ x0 _ _ x1 a b r _ (Kd.C_below H0.out HB.out) hc0 (Kd.C_below H1.out HB.out) hc1 (Kd.C_below H2.out HB.out) hc2 (Kd.C_below H3.out HB.out) hc3 (Kd.C_below H4.out HB.out) hc4 Hh.out).mono ?_); rintro e w5 ⟨rfl, hb3⟩; replace HB := am_ (below_step HB.out hb3); clear hb3))
        all_goals (go_ret; exact ⟨rfl, HB.out⟩)
    · refine pu 15 23 ?_
      refine ld 16 24 ?_
      refine pu 17 25 ?_
      refine pu 18 26 ?_
      refine pu 19 27 ?_
      refine ld 20 28 ?_
      refine pu 21 29 ?_
      refine ld 22 30 ?_
      refine pu 23 31 ?_
      refine pu 24 32 ?_
      refine pu 25 33 ?_
      refine ld 26 34 ?_
      refine pu 27 35 ?_
      refine pu 28 36 ?_
      refine pu 29 7 ?_
      refine fin ?_
      rw [Hpl.out]
      cases pl
      · obtain rfl : false = o := Option.some.inj (show some false = some o from Ho.out)
        clear p0 p1 p2 p3 p4 p5 p6
        have p0 := cf0 BK0.out
        have p1 := cf1 BK0.out
        have p2 := cf2 BK0.out
        have p3 := cf0 BK1.out
        have p4 := cf1 BK1.out
        have p5 := (HB.out.cell (World.block_lt_of_cell? w _ HZ.out)).trans HZ.out
        clear HZ hHeld
        cases q
        · have Hh := am_ (show impl_scene_over.f k l0 l1 l2 x0 x1 a b = some r from Hh.out)
          have hq1 := Hq.out
          go_wp2_with (first | (go_at_call 52; (with_reducible refine (impl_scene_over.calls k _ _ l0 _ _ l1 _ _ l2 _ _ x0 _ _ x1 a b r _ (Kd.C_below H0.out HB.out) hc0 (Kd.C_below H1.out HB.out) hc1 (Kd.C_below H2.out HB.out) hc2 (Kd.C_below H3.out HB.out) hc3 (Kd.C_below H4.out HB.out) hc4 Hh.out).mono ?_); rintro e w5 ⟨rfl, hb3⟩; replace HB := am_ (below_step HB.out hb3); clear hb3))
          all_goals (go_ret; exact ⟨rfl, HB.out⟩)
        · obtain rfl : true = r := Option.some.inj (show some true = some r from Hh.out)
          have hq1 := Hq.out
          go_wp2_with (first | (go_at_call 52; (with_reducible refine (impl_scene_over.calls k _ _ l0 _ _ l1 _ _ l2 _ _ x0 _ _ x1 a b r _ (Kd.C_below H0.out HB.out) hc0 (Kd.C_below H1.out HB.out) hc1 (Kd.C_below H2.out HB.out) hc2 (Kd.C_below H3.out HB.out) hc3 (Kd.C_below H4.out HB.out) hc4 Hh.out).mono ?_); rintro e w5 ⟨rfl, hb3⟩; replace HB := am_ (below_step HB.out hb3); clear hb3))
          all_goals (go_ret; exact ⟨rfl, HB.out⟩)
      · have Ho := am_ (show impl_scene_own.f l0 l1 l2 a b = some o from Ho.out)
        clear p0 p1 p2 p3 p4 p5 p6
        have p0 := cf0 BK0.out
        have p1 := cf1 BK0.out
        have p2 := cf2 BK0.out
        have p3 := cf0 BK1.out
        have p4 := cf1 BK1.out
        have p5 := (HB.out.cell (World.block_lt_of_cell? w _ HZ.out)).trans HZ.out
        clear HZ hHeld
        cases o
        · cases q
          · have Hh := am_ (show impl_scene_over.f k l0 l1 l2 x0 x1 a b = some r from Hh.out)
            have hq1 := Hq.out
            go_wp2_with (first | (go_at_call 51; (with_reducible refine (impl_scene_own.calls _ _ l0 _ _ l1 _ _ l2 a b _ _ (Kd.C_below H0.out HB.out) hc0 (Kd.C_below H1.out HB.out) hc1 (Kd.C_below H2.out HB.out) hc2 Ho.out).mono ?_); rintro e w4 ⟨rfl, hb3⟩; replace p0 := pw_cell_below hb3 p0; replace p1 := pw_cell_below hb3 p1; replace p2 := pw_cell_below hb3 p2; replace p3 := pw_cell_below hb3 p3; replace p4 := pw_cell_below hb3 p4; replace p5 := pw_cell_below hb3 p5; replace HB := am_ (below_step HB.out hb3); clear hb3) | (go_at_call 52; (with_reducible refine (impl_scene_over.calls k _ _ l0 _ _ l1 _ _ l2 _ _ x0 _ _ x1 a b r _ (Kd.C_below H0.out HB.out) hc0 (Kd.C_below H1.out HB.out) hc1 (Kd.C_below H2.out HB.out) hc2 (Kd.C_below H3.out HB.out) hc3 (Kd.C_below H4.out HB.out) hc4 Hh.out).mono ?_); rintro e w5 ⟨rfl, hb3⟩; replace HB := am_ (below_step HB.out hb3); clear hb3))
            all_goals (go_ret; exact ⟨rfl, HB.out⟩)
          · obtain rfl : true = r := Option.some.inj (show some true = some r from Hh.out)
            have hq1 := Hq.out
            go_wp2_with (first | (go_at_call 51; (with_reducible refine (impl_scene_own.calls _ _ l0 _ _ l1 _ _ l2 a b _ _ (Kd.C_below H0.out HB.out) hc0 (Kd.C_below H1.out HB.out) hc1 (Kd.C_below H2.out HB.out) hc2 Ho.out).mono ?_); rintro e w4 ⟨rfl, hb3⟩; replace p0 := pw_cell_below hb3 p0; replace p1 := pw_cell_below hb3 p1; replace p2 := pw_cell_below hb3 p2; replace p3 := pw_cell_below hb3 p3; replace p4 := pw_cell_below hb3 p4; replace p5 := pw_cell_below hb3 p5; replace HB := am_ (below_step HB.out hb3); clear hb3) | (go_at_call 52; (with_reducible refine (impl_scene_over.calls k _ _ l0 _ _ l1 _ _ l2 _ _ x0 _ _ x1 a b r _ (Kd.C_below H0.out HB.out) hc0 (Kd.C_below H1.out HB.out) hc1 (Kd.C_below H2.out HB.out) hc2 (Kd.C_below H3.out HB.out) hc3 (Kd.C_below H4.out HB.out) hc4 Hh.out).mono ?_); rintro e w5 ⟨rfl, hb3⟩; replace HB := am_ (below_step HB.out hb3); clear hb3))
            all_goals (go_ret; exact ⟨rfl, HB.out⟩)
        · obtain rfl : true = r := Option.some.inj (show some true = some r from Hh.out)
          have hq1 := Hq.out
          go_wp2_with (first | (go_at_call 51; (with_reducible refine (impl_scene_own.calls _ _ l0 _ _ l1 _ _ l2 a b _ _ (Kd.C_below H0.out HB.out) hc0 (Kd.C_below H1.out HB.out) hc1 (Kd.C_below H2.out HB.out) hc2 Ho.out).mono ?_); rintro e w4 ⟨rfl, hb3⟩; replace p0 := pw_cell_below hb3 p0; replace p1 := pw_cell_below hb3 p1; replace p2 := pw_cell_below hb3 p2; replace p3 := pw_cell_below hb3 p3; replace p4 := pw_cell_below hb3 p4; replace p5 := pw_cell_below hb3 p5; replace HB := am_ (below_step HB.out hb3); clear hb3) | (go_at_call 52; (with_reducible refine (impl_scene_over.calls k _ _ l0 _ _ l1 _ _ l2 _ _ x0 _ _ x1 a b r _ (Kd.C_below H0.out HB.out) hc0 (Kd.C_below H1.out HB.out) hc1 (Kd.C_below H2.out HB.out) hc2 (Kd.C_below H3.out HB.out) hc3 (Kd.C_below H4.out HB.out) hc4 Hh.out).mono ?_); rintro e w5 ⟨rfl, hb3⟩; replace HB := am_ (below_step HB.out hb3); clear hb3))
          all_goals (go_ret; exact ⟨rfl, HB.out⟩)
end Go.Proofs.YtmkchdlkpbnldaaGreatDoor.PB
namespace Go.Proofs.YtmkchdlkpbnldaaGreatDoor.PB
open Go.RowKit Go.Proofs.YtmkchdlkpbnldaaGreatDoorW.PrintWords Go.Proofs.YtmkchdlkpbnldaaGreatDoorW.PrintLast Go.Proofs.YtmkchdlkpbnldaaGreatDoorW.PrintMore
attribute [local go_sem] max2_int min2_int max_two min_two max_three min_three max_four min_four
open Go.Proofs.YtmkchdlkpbnldaaGreatDoorMine
set_option linter.unusedVariables false
set_option linter.unusedSimpArgs false
theorem z44_1 {p : Prop} (h : p := by first | rfl | (simp; done) | (simp [*]; done)) : p := h
theorem z44_2 {p : Prop} (h : p := by first | (with_reducible assumption) | assumption) : p := h
theorem z44_3 {p : Prop} (h : p := by first | rfl | (simp [errW_none, errW_some] <;> rfl) | (simp [*, errW_none, errW_some] <;> rfl)) : p := h
theorem z44_5 {p : Prop} (h : p := by first | exact Kd.R_nil _ _ _ _ _ | exact Kd.N_nil _ _ _ _ _ | exact Kd.V_nil _ _ _ _ _ | exact Kd.Q_nil _ _ _ _ _ | exact Kd.S_nil _ _ _ _ _) : p := h
mutual
def impl_ExecEvents.l0 : Nat → List (S87) → List (List (S45)) → Int → Int → Option ((List (S87)))
  | 0, _, _, _, _ => none
  | k + 1, x3, x12, x13, x14 => if x14 < x13 then (if 0 ≤ x14 then (if x14 < (x12.length : Int) then (impl_ExecEvents.l1 k x3 x14 x12 x13 x14 (rd_L3 x12 x14) ((rd_L3 x12 x14).length : Int) 0) else (none)) else (none)) else (some x3)
def impl_ExecEvents.l1 : Nat → List (S87) → Int → List (List (S45)) → Int → Int → List (S45) → Int → Int → Option ((List (S87)))
  | 0, _, _, _, _, _, _, _, _ => none
  | k + 1, x3, x4, x12, x13, x14, x19, x20, x21 => if x21 < x20 then (if 0 ≤ x21 then (if x21 < (x19.length : Int) then (if x3.length < 5864062014805 then ((some (x3 ++ [(⟨x4, x21, false⟩ : S87)] : List (S87))).bind fun y374 => (if ((rd_T45 x19 x21).f0) = 9 then (if y374.length < 5864062014805 then (impl_ExecEvents.l1 k (y374 ++ [(⟨x4, x21, true⟩ : S87)]) x4 x12 x13 x14 x19 x20 (wrap64 (x21 + 1))) else (none)) else (impl_ExecEvents.l1 k y374 x4 x12 x13 x14 x19 x20 (wrap64 (x21 + 1))))) else (none)) else (none)) else (none)) else (impl_ExecEvents.l0 k x3 x12 x13 (wrap64 (x14 + 1)))
end
def impl_ExecEvents.f (k : Nat) (l0_0 : List (List (S45))) : Option ((List (S87))) := (impl_ProgOk.f k l0_0).bind fun t370 => (if t370 = true then (impl_ExecEvents.l0 k ([] : List (S87)) l0_0 (l0_0.length : Int) 0) else (some ([] : List (S87))))
set_option maxHeartbeats 8000000 in
set_option maxRecDepth 100000 in
theorem impl_ExecEvents.calls (k : Nat) (A0_0 : Option Addr) (c0_0 : Nat) (l0_0 : List (List (S45))) (r : List (S87)) (w : World) (hr0_0 : Kd.C (Kd.slice 45 k45) w A0_0 l0_0.length l0_0) (hc0_0 : l0_0.length ≤ c0_0) (h : impl_ExecEvents.f k l0_0 = some r) :
  Calls Tryz.prog 44 #[.agg #[.slice A0_0 l0_0.length c0_0]] w fun e w' => ∃ v0_ : Value, e = .returned (v0_) ∧ Kd.R k87 87 w' w.heap.size (fun _ => True) v0_ r ∧ Below w.heap.size w w' := by
 have hu27 := Tryz.underlying27; have hu45 := Tryz.underlying45; have hu87 := Tryz.underlying87; have HR0_0 := am_ hr0_0; have HC0_0 := am_ hc0_0; clear hr0_0 hc0_0; have HB := am_ (Below.refl w.heap.size w); have H : ((impl_ProgOk.f k l0_0).bind fun t370 => (if t370 = true then (impl_ExecEvents.l0 k ([] : List (S87)) l0_0 (l0_0.length : Int) 0) else (some ([] : List (S87))))) = some r := h; clear h; replace H := Option.bind_eq_some_iff.mp H; obtain ⟨t370, A20, H⟩ := H; replace H : (if t370 = true then (impl_ExecEvents.l0 k ([] : List (S87)) l0_0 (l0_0.length : Int) 0) else (some ([] : List (S87)))) = some r := H; have A2 := am_ A20; clear A20; by_cases c3 : t370 = true
 ·subst c3; rw [if_pos rfl] at H; have H' := am_ H; clear H; go_enter Tryz.func44, Tryz.ntmps44; go_wp2_with (first | ((with_reducible refine gd 1 ?_); refine boxR w 1 #[.slice A0_0 l0_0.length c0_0] 27 ?_; clear HB; intro gb369 hg GE369 w4 BK369 hb HB; clear hb hg; obtain ⟨_, _⟩ := cz1 BK369) | ((with_reducible refine gc 24 ?_); refine goesQ 9 Tryz.func24 #[.agg #[.slice A0_0 l0_0.length c0_0]] ?_; (with_reducible refine (impl_ProgOk.calls k _ _ l0_0 true _ ?side1 ?side2 A2.out).mono ?_); (case side1 => exact cs HR0_0 HB); (case side2 => exact HC0_0.out); rintro e w6 ⟨rfl, hb⟩; refine ⟨_, rfl, ?_⟩; replace BK369 := bk BK369 hb; replace HB := hs hb; clear hb; obtain ⟨_, _⟩ := cz1 BK369))
  go_loopg [3, 14] k (fun kq v3 v14 w' => ∃ (x3_1 : List (S87)) (x14_1 : Int), v14 = .int .i64 x14_1 ∧ Aside0 (impl_ExecEvents.l0 kq x3_1 l0_0 (l0_0.length : Int) x14_1 = some r) ∧ Aside0 (kq ≤ k) ∧ Aside0 (Kd.R k87 87 w' w.heap.size (fun _ => True) v3 x3_1) ∧ Aside0 (w'.heap[gb369]? = some (.cells #[(.slice A0_0 l0_0.length c0_0)] 27 (0, 0))) ∧ Aside0 (Below w.heap.size w w'))
  case atStart => exact ⟨(([] : List (S87))), (0), z44_1, H', ⟨Nat.le_refl _⟩, ⟨z44_5⟩, ⟨bu BK369.out⟩, ⟨hh⟩⟩
  case round =>
   clear H'; obtain ⟨x3_1, x14_1, rfl, HA, HK1, HO_3, BK369, HB⟩ := hrel
   cases gk with
   | zero => exact absurd HA.out (by simp [impl_ExecEvents.l0])
   | succ k1 =>
    have H := HA.out; clear HA; simp only [impl_ExecEvents.l0] at H; by_cases c8 : x14_1 < (l0_0.length : Int)
    ·rw [if_pos c8] at H; have c8b0 := decide_eq_true c8; clear c8; by_cases c9 : 0 ≤ x14_1
     ·rw [if_pos c9] at H; have c9b0 := decide_eq_true c9; clear c9; by_cases c10 : x14_1 < (l0_0.length : Int)
      ·rw [if_pos c10] at H; have c10b0 := decide_eq_true c10; clear c10; have H' := am_ H; clear H; have p371 : 0 ≤ (x14_1 : Int) := of_decide_eq_true z44_2; have q371 : x14_1 < (l0_0.length : Int) := of_decide_eq_true z44_2; obtain ⟨ad371, A371_0, c371_0, e371, hx371_0, hl371_0, hi371_0⟩ := at_L3 HR0_0.out x14_1 p371 q371; cases e371; replace hx371_0 := xc HB hx371_0; have HR371_0 := am_ hi371_0; have HC371_0 := am_ hl371_0; clear hi371_0 hl371_0; replace p371 := eq_true p371; replace q371 := eq_true q371; go_wp2; go_loopg [3, 21] k1 (fun kq v3 v21 w' => ∃ (x3_2 : List (S87)) (x21_2 : Int), v21 = .int .i64 x21_2 ∧ Aside0 (impl_ExecEvents.l1 kq x3_2 x14_1 l0_0 (l0_0.length : Int) x14_1 (rd_L3 l0_0 x14_1) ((rd_L3 l0_0 x14_1).length : Int) x21_2 = some r) ∧ Aside0 (kq ≤ k1) ∧ Aside0 (Kd.R k87 87 w' w.heap.size (fun _ => True) v3 x3_2) ∧ Aside0 (w'.heap[gb369]? = some (.cells #[(.slice (some ad371) l0_0.length c0_0)] 27 (0, 0))) ∧ Aside0 (Below w.heap.size w w'))
       case atStart => exact ⟨(x3_1), (0), z44_1, H', ⟨Nat.le_refl _⟩, ⟨ru HO_3.out⟩, ⟨bu BK369.out⟩, ⟨hh⟩⟩
       case round =>
        clear H'; obtain ⟨x3_2, x21_2, rfl, HA, HK2, HO_3, BK369, HB⟩ := hrel
        cases gk with
        | zero => exact absurd HA.out (by simp [impl_ExecEvents.l1])
        | succ k2 =>
         have H := HA.out; clear HA; simp only [impl_ExecEvents.l1] at H; by_cases c11 : x21_2 < ((rd_L3 l0_0 x14_1).length : Int)
         ·rw [if_pos c11] at H; have c11b0 := decide_eq_true c11; clear c11; by_cases c12 : 0 ≤ x21_2
          ·rw [if_pos c12] at H; have c12b0 := decide_eq_true c12; clear c12; by_cases c13 : x21_2 < ((rd_L3 l0_0 x14_1).length : Int)
           ·rw [if_pos c13] at H; have c13b0 := decide_eq_true c13; clear c13; by_cases c14 : x3_2.length < 5864062014805
            ·rw [if_pos c14] at H; have LMc14 := am_ c14; clear c14; obtain ⟨y374, hy374⟩ : ∃ y_ : List (S87), y_ = (x3_2 ++ [(⟨x14_1, x21_2, false⟩ : S87)]) := ⟨_, rfl⟩; replace H : (if ((rd_T45 (rd_L3 l0_0 x14_1) x21_2).f0) = 9 then (if y374.length < 5864062014805 then (impl_ExecEvents.l1 k2 (y374 ++ [(⟨x14_1, x21_2, true⟩ : S87)]) x14_1 l0_0 (l0_0.length : Int) x14_1 (rd_L3 l0_0 x14_1) ((rd_L3 l0_0 x14_1).length : Int) (wrap64 (x21_2 + 1))) else (none)) else (impl_ExecEvents.l1 k2 y374 x14_1 l0_0 (l0_0.length : Int) x14_1 (rd_L3 l0_0 x14_1) ((rd_L3 l0_0 x14_1).length : Int) (wrap64 (x21_2 + 1)))) = some r := by first | (rw [hy374]; with_reducible exact H) | (have H2_ := (Option.bind_some _ _).symm.trans H; rw [hy374]; with_reducible exact H2_) | (have H2_ := (Option.bind_some _ _).symm.trans H; with_reducible exact H2_) | with_reducible exact H | (rw [hy374]; exact H) | exact H
             have Ny374 := am_ hy374; clear hy374; by_cases c15 : ((rd_T45 (rd_L3 l0_0 x14_1) x21_2).f0) = 9
             ·rw [if_pos c15] at H; have c15b0 := beq_iff_eq.mpr c15; have c15b1 := bne_eq_false_iff_eq.mpr c15; clear c15; by_cases c16 : y374.length < 5864062014805
              ·rw [if_pos c16] at H; have LMc16 := am_ c16; clear c16; obtain ⟨y377, hy377⟩ : ∃ y_ : List (S87), y_ = (y374 ++ [(⟨x14_1, x21_2, true⟩ : S87)]) := ⟨_, rfl⟩; replace H : (impl_ExecEvents.l1 k2 y377 x14_1 l0_0 (l0_0.length : Int) x14_1 (rd_L3 l0_0 x14_1) ((rd_L3 l0_0 x14_1).length : Int) (wrap64 (x21_2 + 1))) = some r := by first | (rw [hy377]; with_reducible exact H) | (have H2_ := (Option.bind_some _ _).symm.trans H; rw [hy377]; with_reducible exact H2_) | (have H2_ := (Option.bind_some _ _).symm.trans H; with_reducible exact H2_) | with_reducible exact H | (rw [hy377]; exact H) | exact H
               have Ny377 := am_ hy377; clear hy377; have H' := am_ H; clear H; have p372 : 0 ≤ (x21_2 : Int) := of_decide_eq_true z44_2; have q372 : x21_2 < ((rd_L3 l0_0 x14_1).length : Int) := of_decide_eq_true z44_2; obtain ⟨ad372, e372, hx372_0, hx372_1, hx372_2⟩ := at_T45 HR371_0.out x21_2 p372 q372; cases e372; replace hx372_0 := xc HB hx372_0; replace hx372_1 := xc HB hx372_1; replace hx372_2 := xc HB hx372_2; replace p372 := eq_true p372; replace q372 := eq_true q372; go_wp2_with (first | ((with_reducible refine gd 7 ?_); refine boxR w 7 #[.int .i64 0, .int .i64 0, .int .i64 0] 45 ?_; clear HB; intro gb373 hg GE373 w17 BK373 hb HB; obtain ⟨NB369_373, NB373_369⟩ := nb BK369 hg; replace HO_3 := am_ (Kd.R_below (ru HO_3.out) hb); replace BK369 := bk BK369 hb; clear hb hg; obtain ⟨_, _⟩ := n2 NB373_369; obtain ⟨_, _, _, _, _, _⟩ := cz3 BK373) | ((with_reducible refine gate_builtin (b := .append) (xs := #[.tmp 26, .tmp 30]) rfl ?_); at_builtin; refine Kd.R_append k87 (w0 := w) w.heap.size rfl (.tmp 26) (.tmp 30) 57 87 (.agg #[(.int .i64 0), (.int .i64 0), (.bool false)]) 24 rfl Tryz.underlying57 info87 rfl (by decide) (by omega) u3 x3_2 (⟨x14_1, x21_2, false⟩ : S87) [.int .i64 x14_1, .int .i64 x21_2, .bool false] (fun _ => True) (fun _ => False) rfl (by first | (go_simp; done) | (go_simp; rfl)) ?aP (fun _ hk => hk.elim) ?aF ?aO ?aB ?aS ?aL ?_; (case aP => exact k87_mkM _ _ _ (⟨x14_1, x21_2, false⟩ : S87)); (case aB => exact hh); (case aF => exact (fun _ _ => trivial)); (case aO => exact (ru (Kd.R_mono (Kd.R_far (p := ⟨gb373, 2, none⟩) (Kd.R_far (p := ⟨gb373, 1, none⟩) (Kd.R_far (p := ⟨gb373, 0, none⟩) (Kd.R_types HO_3.out BK373.out (by decide)) (fun _ hk => hk.2) (.int .i64 ((rd_T45 (rd_L3 l0_0 x14_1) x21_2).f0))) (fun _ hk => hk.2) (.int .i64 ((rd_T45 (rd_L3 l0_0 x14_1) x21_2).f1))) (fun _ hk => hk.2) (.int .i64 ((rd_T45 (rd_L3 l0_0 x14_1) x21_2).f2))) (fun _ hk => trivial)))); (case aS => exact (below_size hh)); (case aL => have := LMc14.out; omega); intro v375 w20 ho hb hg hat; rw [← Ny374.out] at ho; replace BK369 := am_ (blk_grown (g := gb369) (o := .cells #[.slice (some ad371) l0_0.length c0_0] 27 (0, 0)) bx hg (Kd.R_ne HO_3.out BK369.out (by decide))); replace BK373 := am_ (blk_grown (g := gb373) (o := .cells #[.int .i64 ((rd_T45 (rd_L3 l0_0 x14_1) x21_2).f0), .int .i64 ((rd_T45 (rd_L3 l0_0 x14_1) x21_2).f1), .int .i64 ((rd_T45 (rd_L3 l0_0 x14_1) x21_2).f2)] 45 (0, 0)) bx hg (Kd.R_ne HO_3.out BK373.out (by decide))); replace HB := am_ (hb); have HO376 := am_ (ho); clear HO_3; clear ho hb hg hat; obtain ⟨_, _, _, _, _, _⟩ := cz3 BK373) | ((with_reducible refine gate_builtin (b := .append) (xs := #[.tmp 35, .tmp 39]) rfl ?_); at_builtin; refine Kd.R_append k87 (w0 := w) w.heap.size rfl (.tmp 35) (.tmp 39) 57 87 (.agg #[(.int .i64 0), (.int .i64 0), (.bool false)]) 24 rfl Tryz.underlying57 info87 rfl (by decide) (by omega) v375 y374 (⟨x14_1, x21_2, true⟩ : S87) [.int .i64 x14_1, .int .i64 x21_2, .bool true] (fun _ => True) (fun _ => False) rfl rfl ?aP (fun _ hk => hk.elim) ?aF ?aO ?aB ?aS ?aL ?_; (case aP => exact k87_mkM _ _ _ (⟨x14_1, x21_2, true⟩ : S87)); (case aB => exact hh); (case aF => exact (fun _ _ => trivial)); (case aO => exact (ru HO376.out)); (case aS => exact (below_size hh)); (case aL => have := LMc16.out; omega); intro v378 w22 ho hb hg hat; rw [← Ny377.out] at ho; replace BK369 := am_ (blk_grown (bu BK369.out) hg (Kd.R_ne HO376.out BK369.out (by decide))); replace BK373 := am_ (blk_grown (bu BK373.out) hg (Kd.R_ne HO376.out BK373.out (by decide))); replace HB := am_ (hb); have HO379 := am_ (ho); clear HO376; clear ho hb hg hat))
               go_roundg k2
               case measure => have := HK1.out; have := HK2.out; omega
               case rel => exact ⟨(y377), (wrap64 (x21_2 + 1)), z44_1, H', ⟨by have := HK1.out; have := HK2.out; omega⟩, ⟨ru HO379.out⟩, ⟨bu BK369.out⟩, ⟨hh⟩⟩
              rw [if_neg c16] at H; exact absurd H (by simp)
             rw [if_neg c15] at H; have c15b0 := beq_eq_false_iff_ne.mpr c15; have c15b1 := bne_iff_ne.mpr c15; have H' := am_ H; clear H; have p372 : 0 ≤ (x21_2 : Int) := of_decide_eq_true z44_2; have q372 : x21_2 < ((rd_L3 l0_0 x14_1).length : Int) := of_decide_eq_true z44_2; obtain ⟨ad372, e372, hx372_0, hx372_1, hx372_2⟩ := at_T45 HR371_0.out x21_2 p372 q372; cases e372; replace hx372_0 := xc HB hx372_0; replace hx372_1 := xc HB hx372_1; replace hx372_2 := xc HB hx372_2; replace p372 := eq_true p372; replace q372 := eq_true q372; go_wp2_with (first | ((with_reducible refine gd 7 ?_); refine boxR w 7 #[.int .i64 0, .int .i64 0, .int .i64 0] 45 ?_; clear HB; intro gb373 hg GE373 w23 BK373 hb HB; obtain ⟨NB369_373, NB373_369⟩ := nb BK369 hg; replace HO_3 := am_ (Kd.R_below (ru HO_3.out) hb); replace BK369 := bk BK369 hb; clear hb hg; obtain ⟨_, _⟩ := n2 NB373_369; obtain ⟨_, _, _, _, _, _⟩ := cz3 BK373) | ((with_reducible refine gate_builtin (b := .append) (xs := #[.tmp 26, .tmp 30]) rfl ?_); at_builtin; refine Kd.R_append k87 (w0 := w) w.heap.size rfl (.tmp 26) (.tmp 30) 57 87 (.agg #[(.int .i64 0), (.int .i64 0), (.bool false)]) 24 rfl Tryz.underlying57 info87 rfl (by decide) (by omega) u3 x3_2 (⟨x14_1, x21_2, false⟩ : S87) [.int .i64 x14_1, .int .i64 x21_2, .bool false] (fun _ => True) (fun _ => False) rfl (by first | (go_simp; done) | (go_simp; rfl)) ?aP (fun _ hk => hk.elim) ?aF ?aO ?aB ?aS ?aL ?_; (case aP => exact k87_mkM _ _ _ (⟨x14_1, x21_2, false⟩ : S87)); (case aB => exact hh); (case aF => exact (fun _ _ => trivial)); (case aO => exact (ru (Kd.R_mono (Kd.R_far (p := ⟨gb373, 2, none⟩) (Kd.R_far (p := ⟨gb373, 1, none⟩) (Kd.R_far (p := ⟨gb373, 0, none⟩) (Kd.R_types HO_3.out BK373.out (by decide)) (fun _ hk => hk.2) (.int .i64 ((rd_T45 (rd_L3 l0_0 x14_1) x21_2).f0))) (fun _ hk => hk.2) (.int .i64 ((rd_T45 (rd_L3 l0_0 x14_1) x21_2).f1))) (fun _ hk => hk.2) (.int .i64 ((rd_T45 (rd_L3 l0_0 x14_1) x21_2).f2))) (fun _ hk => trivial)))); (case aS => exact (below_size hh)); (case aL => have := LMc14.out; omega); intro v375 w26 ho hb hg hat; rw [← Ny374.out] at ho; replace BK369 := am_ (blk_grown (g := gb369) (o := .cells #[.slice (some ad371) l0_0.length c0_0] 27 (0, 0)) bx hg (Kd.R_ne HO_3.out BK369.out (by decide))); replace BK373 := am_ (blk_grown (g := gb373) (o := .cells #[.int .i64 ((rd_T45 (rd_L3 l0_0 x14_1) x21_2).f0), .int .i64 ((rd_T45 (rd_L3 l0_0 x14_1) x21_2).f1), .int .i64 ((rd_T45 (rd_L3 l0_0 x14_1) x21_2).f2)] 45 (0, 0)) bx hg (Kd.R_ne HO_3.out BK373.out (by decide))); replace HB := am_ (hb); have HO376 := am_ (ho); clear HO_3; clear ho hb hg hat; obtain ⟨_, _, _, _, _, _⟩ := cz3 BK373))
             go_roundg k2
             case measure => have := HK1.out; have := HK2.out; omega
             case rel => exact ⟨(y374), (wrap64 (x21_2 + 1)), z44_1, H', ⟨by have := HK1.out; have := HK2.out; omega⟩, ⟨ru HO376.out⟩, ⟨bu BK369.out⟩, ⟨hh⟩⟩
            rw [if_neg c14] at H; exact absurd H (by simp)
           rw [if_neg c13] at H; exact absurd H (by simp)
          rw [if_neg c12] at H; exact absurd H (by simp)
         rw [if_neg c11] at H; have c11b0 := decide_eq_false c11; clear c11; have H' := am_ H; clear H; go_wp2; go_roundg k2
         case measure => have := HK1.out; have := HK2.out; omega
         case rel => exact ⟨(x3_2), (wrap64 (x14_1 + 1)), z44_1, H', ⟨by have := HK1.out; have := HK2.out; omega⟩, ⟨ru HO_3.out⟩, ⟨bu BK369.out⟩, ⟨hh⟩⟩
      rw [if_neg c10] at H; exact absurd H (by simp)
     rw [if_neg c9] at H; exact absurd H (by simp)
    rw [if_neg c8] at H; have c8b0 := decide_eq_false c8; clear c8; obtain rfl := Option.some.inj H; go_wp2; go_ret; exact ⟨_, z44_3, ru HO_3.out, hh⟩
 replace c3 := Bool.eq_false_iff.mpr c3; subst c3; rw [if_neg Bool.false_ne_true] at H; obtain rfl := Option.some.inj H; go_enter Tryz.func44, Tryz.ntmps44; go_wp2_with (first | ((with_reducible refine gd 1 ?_); refine boxR w 1 #[.slice A0_0 l0_0.length c0_0] 27 ?_; clear HB; intro gb369 hg GE369 w28 BK369 hb HB; clear hb hg; obtain ⟨_, _⟩ := cz1 BK369) | ((with_reducible refine gc 24 ?_); refine goesQ 9 Tryz.func24 #[.agg #[.slice A0_0 l0_0.length c0_0]] ?_; (with_reducible refine (impl_ProgOk.calls k _ _ l0_0 false _ ?side1 ?side2 A2.out).mono ?_); (case side1 => exact cs HR0_0 HB); (case side2 => exact HC0_0.out); rintro e w30 ⟨rfl, hb⟩; refine ⟨_, rfl, ?_⟩; replace BK369 := bk BK369 hb; replace HB := hs hb; clear hb))
 go_ret; exact ⟨_, z44_3, z44_5, hh⟩
end Go.Proofs.YtmkchdlkpbnldaaGreatDoor.PB

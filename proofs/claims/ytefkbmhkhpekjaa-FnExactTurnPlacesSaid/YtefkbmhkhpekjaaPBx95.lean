-- Written by this session's wip/myprint.py (the kit's print.py, with hand-written chunks). Lean checks it.
import Derived.Test.YtefkbmhkhpekjaaPBx0
import Derived.Test.YtefkbmhkhpekjaaPBx127
namespace Go.Proofs.Ytefkbmhkhpekjaa.PB
open Go.RowKit Go.Proofs.YtefkbmhkhpekjaaW.PrintWords Go.Proofs.YtefkbmhkhpekjaaW.PrintLast Go.Proofs.YtefkbmhkhpekjaaW.PrintMore
attribute [local go_sem] max2_int min2_int max_two min_two max_three min_three max_four min_four   -- for this text's walks alone
open Go.Proofs.YtefkbmhkhpekjaaMine
set_option linter.unusedVariables false
set_option linter.unusedSimpArgs false

/-! ### laws_toDoSS: function 95 -/
theorem zq95_1 {p : Prop} (h : p := by first | (with_reducible assumption) | assumption) : p := h
theorem zq95_2 {p : Prop} (h : p := by repeat (first | (with_reducible first | exact HB.out | apply below_alloc | apply pw_below_drewN | apply below_drew1) | exact HB.out)) : p := h
def laws_toDoSS.l0 : Nat → List (List (S130)) → List (List (S85)) → Int → Option ((List (List (S85))))
  | 0, _, _, _ => none
  | k + 1, x0, x3, x4 => if x4 < (x0.length : Int) then (if 0 ≤ x4 then ((laws_toDoS.f k (rd_L13 x0 x4)).bind fun t917 => (if x4 < (x3.length : Int) then (laws_toDoSS.l0 k x0 (x3.set (x4 : Int).toNat t917) (wrap64 (x4 + 1))) else (none))) else (none)) else (some x3)
def laws_toDoSS.f (k : Nat) (l0 : List (List (S130))) : Option ((List (List (S85)))) := if 0 ≤ (l0.length : Int) then (if ((l0.length : Int) : Int).toNat ≤ 11728124029610 then (laws_toDoSS.l0 k l0 (List.replicate ((l0.length : Int) : Int).toNat []) 0) else (none)) else (none)
theorem laws_toDoSS.mono_l : ∀ k, (∀ y0 y1 y2, LeO (laws_toDoSS.l0 k y0 y1 y2) (laws_toDoSS.l0 (k + 1) y0 y1 y2))
  | 0 => fun _ _ _ r h => by simp [laws_toDoSS.l0] at h
  | k + 1 => by
    have ih0 := laws_toDoSS.mono_l k
    · intro y0 y1 y2
      unfold laws_toDoSS.l0
      repeat' first
      | (with_reducible exact ih0 _ _ _)
      | (with_reducible exact laws_toDoS.mono _ _)
      | (with_reducible exact LeO.refl _)
      | (with_reducible exact LeO.none _)
      | (with_reducible refine LeO.ite ?_ ?_)
      | (with_reducible refine LeO.bind ?_ (fun _ => ?_))
      | exact ih0 _ _ _
      | exact laws_toDoS.mono _ _
      | exact LeO.none _
      | refine LeO.ite ?_ ?_
      | refine LeO.bind ?_ (fun _ => ?_)
theorem laws_toDoSS.mono : ∀ a0 k, LeO (laws_toDoSS.f k a0) (laws_toDoSS.f (k + 1) a0) := by
  intro a0 k
  have ih0 := laws_toDoSS.mono_l k
  unfold laws_toDoSS.f
  repeat' first
      | (with_reducible exact ih0 _ _ _)
      | (with_reducible exact laws_toDoS.mono _ _)
      | (with_reducible exact LeO.refl _)
      | (with_reducible exact LeO.none _)
      | (with_reducible refine LeO.ite ?_ ?_)
      | (with_reducible refine LeO.bind ?_ (fun _ => ?_))
      | exact ih0 _ _ _
      | exact laws_toDoS.mono _ _
      | exact LeO.none _
      | refine LeO.ite ?_ ?_
      | refine LeO.bind ?_ (fun _ => ?_)
set_option maxHeartbeats 8000000 in
set_option maxRecDepth 100000 in
theorem laws_toDoSS.calls (k : Nat) (A0 : Option Addr) (c0 : Nat) (l0 : List (List (S130))) (r : List (List (S85))) (w : World) (hr0 : Kd.C (Kd.slice 130 k130) w A0 l0.length l0) (hc0 : l0.length ≤ c0) (h : laws_toDoSS.f k l0 = some r) :
  Calls Try.prog 95 #[.slice A0 l0.length c0] w fun e w' => ∃ v0_ : Value, e = .returned (v0_) ∧ Kd.S (Kd.slice 85 k85) 82 w' w.heap.size (fun _ => True) v0_ r ∧ Below w.heap.size w w' := by
 have HR0 := am_ hr0
 have HC0 := am_ hc0
 clear hr0 hc0
 have HB := am_ (Below.refl w.heap.size w)
 have H : (if 0 ≤ (l0.length : Int) then (if ((l0.length : Int) : Int).toNat ≤ 11728124029610 then (laws_toDoSS.l0 k l0 (List.replicate ((l0.length : Int) : Int).toNat []) 0) else (none)) else (none)) = some r := h
 clear h
 by_cases c2 : 0 ≤ (l0.length : Int)
 ·rw [if_pos c2] at H
  have c2b0 := eq_true c2
  have c2b1 : decide (0 ≤ (l0.length : Int)) = true := decide_eq_true c2
  clear c2
  by_cases c3 : ((l0.length : Int) : Int).toNat ≤ 11728124029610
  ·rw [if_pos c3] at H
   have c3b0 := eq_true c3
   have c3b1 : decide (((l0.length : Int) : Int).toNat ≤ 11728124029610) = true := decide_eq_true c3
   clear c3
   obtain ⟨y913, hy913⟩ : ∃ y_ : List (List (S85)), y_ = (List.replicate ((l0.length : Int) : Int).toNat []) := ⟨_, rfl⟩
   replace H : (laws_toDoSS.l0 k l0 y913 0) = some r := by first | (rw [hy913]; with_reducible exact H) | (have H2_ := (Option.bind_some _ _).symm.trans H; rw [hy913]; with_reducible exact H2_) | (have H2_ := (Option.bind_some _ _).symm.trans H; with_reducible exact H2_) | with_reducible exact H | (rw [hy913]; exact H) | exact H
   have Ny913 := am_ hy913
   clear hy913
   have H' := am_ H
   clear H
   go_enter Try.func95, Try.ntmps95
   go_wp2_with (first | ((with_reducible refine gate_dst (N := 7) rfl ?_); refine Kd.S_make (Kd.slice 85 k85) _ 82 rfl (N := 7) rfl 33 _ _ rfl (l0.length : Int) rfl rfl Try.underlying33 (.slice none 0 0) 24 info82 rfl (by decide) (by omega) [] (ok := fun _ => True) (okp := fun _ => True) ⟨_, rfl, Kd.R_nil _ _ _ _ _⟩ (fun _ hk => hk) trivial (of_decide_eq_true zq95_1) (Nat.le_trans (Nat.mul_le_mul_right _ (of_decide_eq_true zq95_1 : (l0.length : Int).toNat ≤ 11728124029610)) (by omega)) (Below.refl _ _) (Nat.le_refl _) ?_; intro v914 w4 ho5 hb hg_ hnew_; clear hg_ hnew_; (first | rw [← Ny913.out] at ho5 | (simp only [Int.reduceToNat] at ho5; rw [← Ny913.out] at ho5)); have n0_ := am_ (Kd.S_lower ho5 (below_size zq95_2)); have n1_ := am_ (below_step zq95_2 hb); clear HB; have HO915 := n0_; have HB := n1_; clear n0_ n1_; clear hb ho5))
   go_loopg [4] k (fun kq v4 w' => ∃ (x3_1 : List (List (S85))) (x4_1 : Int), v4 = .int .i64 x4_1 ∧ Aside0 (laws_toDoSS.l0 kq l0 x3_1 x4_1 = some r) ∧ Aside0 (kq ≤ k) ∧ Aside0 (Kd.S (Kd.slice 85 k85) 82 w' w.heap.size (fun _ => True) v914 x3_1) ∧ Aside0 (Below w.heap.size w w'))
   case atStart => exact ⟨(y913), (0), (by first | rfl | (simp; done) | (simp [*]; done)), H', ⟨Nat.le_refl _⟩, ⟨su HO915.out⟩, ⟨zq95_2⟩⟩
   case round =>
    clear H' HO915 HB
    obtain ⟨x3_1, x4_1, rfl, HA, HK1, HO_3, HB⟩ := hrel
    cases gk with
    | zero => exact absurd HA.out (by simp [laws_toDoSS.l0])
    | succ k1 =>
     have H := HA.out
     clear HA
     simp only [laws_toDoSS.l0] at H
     by_cases c6 : x4_1 < (l0.length : Int)
     · rw [if_pos c6] at H
       by_cases c7 : 0 ≤ x4_1
       rotate_left
       · rw [if_neg c7] at H; cases H
       rw [if_pos c7] at H
       obtain ⟨t, A80, H⟩ := Option.bind_eq_some_iff.mp H
       by_cases c9 : x4_1 < (x3_1.length : Int)
       rotate_left
       · rw [if_neg c9] at H; cases H
       rw [if_pos c9] at H
       have A8 := am_ A80
       have HN := am_ H
       have b6 := decide_eq_true c6
       have b9 := decide_eq_true c9
       clear A80 H
       obtain ⟨go, cap, eV, hgo0, hgol, cells, hcells⟩ := Kd.S_form HO_3.out (by omega)
       subst eV
       obtain ⟨ad, Ai, ci, rfl, hx, hl, hi⟩ := at_L13 (Kd.C_below HR0.out HB.out) x4_1 c7 c6
       have HI := am_ hi
       have LI := am_ hl
       have GL := am_ hgol
       have BG := am_ hcells
       clear hi hl hgol hcells
       go_wp2_with (go_at_call 127; refine park ?_)
       clear hx
       refine ⟨?_⟩
       refine (laws_toDoS.calls k1 _ _ (rd_L13 l0 x4_1) t _ HI.out LI.out A8.out).mono ?_
       rintro e w2 ⟨v, rfl, hR, hb⟩
       obtain ⟨Av, cv, rfl⟩ := Kd.R_slice hR
       have hS2 := Kd.S_mono (ok' := fun k => True ∧ ¬ wr.heap.size ≤ k) (Kd.S_below (Kd.S_bound HO_3.out) hb) (fun k hk => ⟨trivial, by have := hk.2.2.1; omega⟩)
       obtain ⟨oki, cs, hlen, hM, hcc, hoki, hH⟩ := Kd.S_lend hS2 [] x4_1 c7 c9
       obtain ⟨u, rfl, hRu⟩ := (show (Kd.slice 85 k85).M w2 w.heap.size oki (x3_1.getD x4_1.toNat []) cs from hM)
       have hcu : w2.cell? ⟨go, x4_1.toNat, none⟩ = some u := by
         have h1 := hcc 0 _ rfl
         rwa [show x4_1.toNat * (Kd.slice 85 k85).sz + 0 = x4_1.toNat from by show x4_1.toNat * 1 + 0 = _; omega] at h1
       have hfu := blk_frozen (blk_below BG.out hb) x4_1.toNat
       obtain ⟨hSn, hgr⟩ := Kd.S_seg (okg := fun k => wr.heap.size ≤ k) hH c7 c9 (seg := [Value.slice Av t.length cv]) (j := 0) (x' := t) (okp := fun k => wr.heap.size ≤ k) (Nat.le_refl 1) (Kd.M_row (Kd.R_lower (Kd.R_mono (Kd.R_bound hR) (fun k hk => hk.2.1)) HB.out.size)) (fun k hk => .inr hk) (fun k hk => ⟨trivial, by have := GL.out; omega⟩)
       have HSn := am_ (show Kd.S (Kd.slice 85 k85) 82 (w2.setCell ⟨go, x4_1.toNat, none⟩ (.slice Av t.length cv)) w.heap.size (fun _ => True) (.slice (some ⟨go, 0, none⟩) x3_1.length cap) (x3_1.set x4_1.toNat t) from by
         have h := hSn
         rw [show x4_1.toNat * (Kd.slice 85 k85).sz + 0 = x4_1.toNat from by show x4_1.toNat * 1 + 0 = _; omega] at h
         exact h)
       have HB2 := am_ (below_then HB.out HB.out.size hb)
       have GO := am_ hgo0
       clear hSn hgr hS2 hlen hM hcc hoki hH hRu hR hb HO_3 BG GL hgo0
       go_wp2_with fail
       clear hcu hfu
       have hgo := GO.out
       go_roundg k1
       case measure => have := HK1.out; omega
       case rel => exact ⟨_, _, rfl, HN, ⟨by have := HK1.out; omega⟩, HSn, ⟨below_set HB2.out hgo⟩⟩
     · rw [if_neg c6] at H
       have c6b0 : decide (x4_1 < (l0.length : Int)) = false := decide_eq_false c6
       clear c6
       obtain rfl := Option.some.inj H
       go_wp2
       go_ret
       exact ⟨_, rfl, HO_3.out, HB.out⟩
  ·rw [if_neg c3] at H
   exact absurd H (by simp)
 ·rw [if_neg c2] at H
  exact absurd H (by simp)



end Go.Proofs.Ytefkbmhkhpekjaa.PB

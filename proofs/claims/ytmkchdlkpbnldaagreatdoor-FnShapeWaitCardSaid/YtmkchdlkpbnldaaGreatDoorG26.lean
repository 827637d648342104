/- What the laws share, part 26: PBx53. -/
import Derived.Test.YtmkchdlkpbnldaaGreatDoorG4
import Derived.Test.YtmkchdlkpbnldaaGreatDoorG23
namespace Go.Proofs.YtmkchdlkpbnldaaGreatDoor.PB
open Go.RowKit Go.Proofs.YtmkchdlkpbnldaaGreatDoorW.PrintWords Go.Proofs.YtmkchdlkpbnldaaGreatDoorW.PrintLast Go.Proofs.YtmkchdlkpbnldaaGreatDoorW.PrintMore
attribute [local go_sem] max2_int min2_int max_two min_two max_three min_three max_four min_four
open Go.Proofs.YtmkchdlkpbnldaaGreatDoorMine
set_option linter.unusedVariables false
set_option linter.unusedSimpArgs false
theorem z53_1 {p : Prop} (h : p := by first | rfl | (simp; done) | (simp [*]; done)) : p := h
theorem z53_3 {p : Prop} (h : p := by first | exact Kd.R_nil _ _ _ _ _ | exact Kd.N_nil _ _ _ _ _ | exact Kd.V_nil _ _ _ _ _ | exact Kd.Q_nil _ _ _ _ _ | exact Kd.S_nil _ _ _ _ _) : p := h
theorem z53_4 {p : Prop} (h : p := by first | rfl | (simp [errW_none, errW_some] <;> rfl) | (simp only [← hji2]; first | rfl | (simp [errW_none, errW_some] <;> rfl)) | (simp [*, errW_none, errW_some] <;> rfl)) : p := h
mutual
def impl_graph_line.l0 : Nat → List Int → List Int → Int → Option (List Int × Bool)
  | 0, _, _, _ => none
  | k + 1, x0, x4, x5 => if x5 = 0 then (some (x4, true)) else (impl_graph_line.l1 k x0 x4 x5 0 x5)
def impl_graph_line.l1 : Nat → List Int → List Int → Int → Int → Int → Option (List Int × Bool)
  | 0, _, _, _, _, _ => none
  | k + 1, x0, x4, x5, x6, x7 => if x7 = 0 then (if (Go.bits .andNot .u64 x5 x6) = 0 then (some (([] : List Int), false)) else ((bits_TrailingZeros64.f (Go.bits .andNot .u64 x5 x6)).bind fun t658 => (if x4.length < 17592186044416 then (if 0 ≤ t658 then (impl_graph_line.l0 k x0 (x4 ++ [t658]) (Go.bits .andNot .u64 x5 (shl .u64 1 t658))) else (none)) else (none)))) else ((bits_TrailingZeros64.f x7).bind fun t662 => (if 0 ≤ t662 then (if t662 < (x0.length : Int) then (impl_graph_line.l1 k x0 x4 x5 (Go.bits .or .u64 x6 (rd x0 t662)) (Go.bits .and .u64 x7 (IntKind.u64.wrap (x7 - 1)))) else (none)) else (none)))
end
def impl_graph_line.f (k : Nat) (l0 : List Int) : Option (List Int × Bool) := impl_graph_line.l0 k l0 ([] : List Int) (IntKind.u64.wrap ((shl .u64 1 (l0.length : Int)) - 1))
set_option maxHeartbeats 8000000 in
set_option maxRecDepth 100000 in
theorem impl_graph_line.calls (k : Nat) (A0 : Option Addr) (c0 : Nat) (l0 : List Int) (r1 : List Int) (r2 : Bool) (w : World) (hr0 : Kd.C (Kd.int .u64) w A0 l0.length l0) (hc0 : l0.length ≤ c0) (h : impl_graph_line.f k l0 = some (r1, r2)) (hT : Tab w := by first | exact HT.out | exact Tab.below HT.out HB.out | exact Tab.below HT.out (by repeat (first | exact HB.out | apply below_alloc | apply pw_below_drewN | apply below_drew1))) :
  Calls Tryz.prog 53 #[.slice A0 l0.length c0] w fun e w' => ∃ v0_ : Value, e = .returned (.tuple #[v0_, .bool r2]) ∧ Kd.R (Kd.int .i64) 3 w' w.heap.size (fun _ => True) v0_ r1 ∧ Below w.heap.size w w' := by
 have HR0 := am_ hr0; have HC0 := am_ hc0; clear hr0 hc0; have HB := am_ (Below.refl w.heap.size w); have HT := am_ hT; clear hT; have H : (impl_graph_line.l0 k l0 ([] : List Int) (IntKind.u64.wrap ((shl .u64 1 (l0.length : Int)) - 1))) = some (r1, r2) := h; clear h; obtain ⟨ji2, hji2⟩ : ∃ j_ : Int, (shl .u64 1 (l0.length : Int)) = j_ := ⟨_, rfl⟩; replace H : (impl_graph_line.l0 k l0 ([] : List Int) (IntKind.u64.wrap ((ji2) - 1))) = some (r1, r2) := by first | (rw [hji2] at H; exact H) | (simp only [hji2] at H ⊢; exact H)
 have hji2_ : (IntKind.u64.wrap (1 * 2 ^ min (l0.length : Int).toNat 64)) = ji2 := hji2; have hji2z : (l0.length : Int) ≤ 64 → (IntKind.u64.wrap (1 * 2 ^ (l0.length : Int).toNat)) = ji2 := shl_small hji2; have hji2p : (IntKind.u64.wrap (1 * 2 ^ min l0.length 64)) = ji2 := hji2_; have hji2q : (l0.length : Int) ≤ 64 → (IntKind.u64.wrap (1 * 2 ^ l0.length)) = ji2 := hji2z; have hji2r : (IntKind.u64.wrap (2 ^ min l0.length 64)) = ji2 := by have h_ := hji2p; rw [Int.one_mul] at h_; exact h_
 have hji2s : (l0.length : Int) ≤ 64 → (IntKind.u64.wrap (2 ^ l0.length)) = ji2 := fun hle_ => by have h_ := hji2q hle_; rw [Int.one_mul] at h_; exact h_
 have hji2u : (IntKind.u64.wrap (2 ^ min (l0.length : Int).toNat 64)) = ji2 := by have h_ := hji2_; rw [Int.one_mul] at h_; exact h_
 have hji2v : (l0.length : Int) ≤ 64 → (IntKind.u64.wrap (2 ^ (l0.length : Int).toNat)) = ji2 := fun hle_ => by have h_ := hji2z hle_; rw [Int.one_mul] at h_; exact h_
 have H' := am_ H; clear H; go_enter Tryz.func53, Tryz.ntmps53; go_wp2; go_loopg [4, 5] k (fun kq v4 v5 w' => ∃ (x4_1 : List Int) (x5_1 : Int), v5 = .int .u64 x5_1 ∧ Aside0 (impl_graph_line.l0 kq l0 x4_1 x5_1 = some (r1, r2)) ∧ Aside0 (kq ≤ k) ∧ Aside0 (Kd.R (Kd.int .i64) 3 w' w.heap.size (fun _ => True) v4 x4_1) ∧ Aside0 (Below w.heap.size w w'))
 case atStart => exact ⟨(([] : List Int)), (IntKind.u64.wrap ((ji2) - 1)), (by first | rfl | (simp; done) | (simp only [← hji2] <;> (first | rfl | simp)) | (simp [*]; done)), H', ⟨Nat.le_refl _⟩, ⟨z53_3⟩, ⟨hh⟩⟩
 case round =>
  clear H'; obtain ⟨x4_1, x5_1, rfl, HA, HK1, HO_4, HB⟩ := hrel
  cases gk with
  | zero => exact absurd HA.out (by simp [impl_graph_line.l0])
  | succ k1 =>
   have H := HA.out; clear HA; simp only [impl_graph_line.l0] at H; by_cases c3 : x5_1 = 0
   ·rw [if_pos c3] at H; have c3b0 := beq_iff_eq.mpr c3; have c3b1 := bne_eq_false_iff_eq.mpr c3; clear c3; simp only [Option.some.injEq, Prod.mk.injEq] at H; obtain ⟨rfl, rfl⟩ := H; go_wp2; go_ret2; exact ⟨_, z53_4, ru HO_4.out, hh⟩
   rw [if_neg c3] at H; have c3b0 := beq_eq_false_iff_ne.mpr c3; have c3b1 := bne_iff_ne.mpr c3; have H' := am_ H; clear H; go_wp2; go_loopg [6, 7] k1 (fun kq v6 v7 w' => ∃ (x6_2 : Int) (x7_2 : Int), v6 = .int .u64 x6_2 ∧ v7 = .int .u64 x7_2 ∧ Aside0 (impl_graph_line.l1 kq l0 x4_1 x5_1 x6_2 x7_2 = some (r1, r2)) ∧ Aside0 (kq ≤ k1) ∧ Aside0 (Kd.R (Kd.int .i64) 3 w' w.heap.size (fun _ => True) u4 x4_1) ∧ Aside0 (Below w.heap.size w w'))
   case atStart => exact ⟨(0), (x5_1), z53_1, z53_1, H', ⟨Nat.le_refl _⟩, ⟨ru HO_4.out⟩, ⟨hh⟩⟩
   case round =>
    clear H'; obtain ⟨x6_2, x7_2, rfl, rfl, HA, HK2, HO_4, HB⟩ := hrel
    cases gk with
    | zero => exact absurd HA.out (by simp [impl_graph_line.l1])
    | succ k2 =>
     have H := HA.out; clear HA; simp only [impl_graph_line.l1] at H; by_cases c4 : x7_2 = 0
     ·rw [if_pos c4] at H; have c4b0 := beq_iff_eq.mpr c4; have c4b1 := bne_eq_false_iff_eq.mpr c4; clear c4; by_cases c5 : (Go.bits .andNot .u64 x5_1 x6_2) = 0
      ·rw [if_pos c5] at H; have c5b0 := beq_iff_eq.mpr c5; have c5b1 := bne_eq_false_iff_eq.mpr c5; clear c5; simp only [Option.some.injEq, Prod.mk.injEq] at H; obtain ⟨rfl, rfl⟩ := H; go_wp2; go_ret2; exact ⟨_, z53_4, z53_3, hh⟩
      rw [if_neg c5] at H; have c5b0 := beq_eq_false_iff_ne.mpr c5; have c5b1 := bne_iff_ne.mpr c5; replace H := Option.bind_eq_some_iff.mp H; obtain ⟨t658, A60, H⟩ := H; replace H : (if x4_1.length < 17592186044416 then (if 0 ≤ t658 then (impl_graph_line.l0 k2 l0 (x4_1 ++ [t658]) (Go.bits .andNot .u64 x5_1 (shl .u64 1 t658))) else (none)) else (none)) = some (r1, r2) := H; have A6 := am_ A60; clear A60; by_cases c7 : x4_1.length < 17592186044416
      ·rw [if_pos c7] at H; have LMc7 := am_ c7; clear c7; obtain ⟨y659, hy659⟩ : ∃ y_ : List Int, y_ = (x4_1 ++ [t658]) := ⟨_, rfl⟩; replace H : (if 0 ≤ t658 then (impl_graph_line.l0 k2 l0 y659 (Go.bits .andNot .u64 x5_1 (shl .u64 1 t658))) else (none)) = some (r1, r2) := by first | (rw [hy659]; with_reducible exact H) | (have H2_ := (Option.bind_some _ _).symm.trans H; rw [hy659]; with_reducible exact H2_) | (have H2_ := (Option.bind_some _ _).symm.trans H; with_reducible exact H2_) | with_reducible exact H | (rw [hy659]; exact H) | exact H
       have Ny659 := am_ hy659; clear hy659; by_cases c8 : 0 ≤ t658
       ·rw [if_pos c8] at H; have c8b0 := eq_true c8; have c8b1 := decide_eq_true c8; clear c8; obtain ⟨ji9, hji9⟩ : ∃ j_ : Int, (shl .u64 1 t658) = j_ := ⟨_, rfl⟩; replace H : (impl_graph_line.l0 k2 l0 y659 (Go.bits .andNot .u64 x5_1 (ji9))) = some (r1, r2) := by first | (rw [hji9] at H; exact H) | (simp only [hji9] at H ⊢; exact H)
        (try rw [hji9] at A6); have hji9_ : (IntKind.u64.wrap (1 * 2 ^ min t658.toNat 64)) = ji9 := hji9; have hji9z : t658 ≤ 64 → (IntKind.u64.wrap (1 * 2 ^ t658.toNat)) = ji9 := shl_small hji9; have hji9u : (IntKind.u64.wrap (2 ^ min t658.toNat 64)) = ji9 := by have h_ := hji9_; rw [Int.one_mul] at h_; exact h_
        have hji9v : t658 ≤ 64 → (IntKind.u64.wrap (2 ^ t658.toNat)) = ji9 := fun hle_ => by have h_ := hji9z hle_; rw [Int.one_mul] at h_; exact h_
        have H' := am_ H; clear H; go_wp2_with (first | ((with_reducible refine gc 71 ?_); refine goesQ 36 Tryz.func71 #[.int .u64 (Go.bits .andNot .u64 x5_1 x6_2)] ?_; (with_reducible refine (bits_TrailingZeros64.calls (Go.bits .andNot .u64 x5_1 x6_2) t658 _ A6.out).mono ?_); rintro e w' ⟨rfl, ⟨nd, rfl⟩⟩; refine ⟨_, rfl, ?_⟩) | ((with_reducible refine gate_builtin (b := .append) (xs := #[.tmp 37, .tmp 39]) rfl ?_); at_builtin; refine Kd.R_append (Kd.int .i64) (w0 := w) w.heap.size rfl (.tmp 37) (.tmp 39) 33 3 (.int .i64 0) 8 rfl Tryz.underlying33 info3 rfl (by decide) (by omega) u4 x4_1 t658 [.int .i64 t658] (fun _ => True) (fun _ => False) rfl rfl ?aP (fun _ hk => hk.elim) ?aF ?aO ?aB ?aS ?aL ?_; (case aP => exact rfl); (case aB => exact hh); (case aF => exact (fun _ _ => trivial)); (case aO => exact (ru HO_4.out)); (case aS => exact (below_size hh)); (case aL => have := LMc7.out; omega); intro v660 w10 ho hb hg hat; rw [← Ny659.out] at ho; replace HB := am_ (hb); have HO661 := am_ (ho); clear HO_4; clear ho hb hg hat))
        go_roundg k2
        case measure => have := HK1.out; have := HK2.out; omega
        case rel => exact ⟨(y659), (Go.bits .andNot .u64 x5_1 (ji9)), (by first | rfl | (simp; done) | (simp only [← hji9] <;> (first | rfl | simp)) | (simp [*]; done)), H', ⟨by have := HK1.out; have := HK2.out; omega⟩, ⟨ru HO661.out⟩, ⟨hh⟩⟩
       rw [if_neg c8] at H; exact absurd H (by simp)
      rw [if_neg c7] at H; exact absurd H (by simp)
     rw [if_neg c4] at H; have c4b0 := beq_eq_false_iff_ne.mpr c4; have c4b1 := bne_iff_ne.mpr c4; replace H := Option.bind_eq_some_iff.mp H; obtain ⟨t662, A110, H⟩ := H; replace H : (if 0 ≤ t662 then (if t662 < (l0.length : Int) then (impl_graph_line.l1 k2 l0 x4_1 x5_1 (Go.bits .or .u64 x6_2 (rd l0 t662)) (Go.bits .and .u64 x7_2 (IntKind.u64.wrap (x7_2 - 1)))) else (none)) else (none)) = some (r1, r2) := H; have A11 := am_ A110; clear A110; by_cases c12 : 0 ≤ t662
     ·rw [if_pos c12] at H; have c12b0 := decide_eq_true c12; clear c12; by_cases c13 : t662 < (l0.length : Int)
      ·rw [if_pos c13] at H; have c13b0 := decide_eq_true c13; clear c13; have H' := am_ H; clear H; go_wp2_with (first | ((with_reducible refine gc 71 ?_); refine goesQ 26 Tryz.func71 #[.int .u64 x7_2] ?_; (with_reducible refine (bits_TrailingZeros64.calls x7_2 t662 _ A11.out).mono ?_); rintro e w' ⟨rfl, ⟨nd, rfl⟩⟩; refine ⟨_, rfl, ?_⟩; have p663 : 0 ≤ (t662 : Int) := of_decide_eq_true (by first | (with_reducible assumption) | assumption); have q663 : t662 < (l0.length : Int) := of_decide_eq_true (by first | (with_reducible assumption) | assumption); obtain ⟨ad663, e663, hx663_0⟩ := Kd.at_int HR0.out t662 p663 q663; cases e663; replace hx663_0 := xc HB hx663_0; replace p663 := eq_true p663; replace q663 := eq_true q663))
       go_roundg k2
       case measure => have := HK1.out; have := HK2.out; omega
       case rel => exact ⟨(Go.bits .or .u64 x6_2 (rd l0 t662)), (Go.bits .and .u64 x7_2 (IntKind.u64.wrap (x7_2 - 1))), z53_1, z53_1, H', ⟨by have := HK1.out; have := HK2.out; omega⟩, ⟨ru HO_4.out⟩, ⟨hh⟩⟩
      rw [if_neg c13] at H; exact absurd H (by simp)
     rw [if_neg c12] at H; exact absurd H (by simp)
end Go.Proofs.YtmkchdlkpbnldaaGreatDoor.PB

-- Joined by wip/mclaim.py out of YtmkchdlkpbnldaaPBx51, YtmkchdlkpbnldaaPBx44, YtmkchdlkpbnldaaPBx45, YtmkchdlkpbnldaaPBx46, YtmkchdlkpbnldaaPBx36, YtmkchdlkpbnldaaPBx37, YtmkchdlkpbnldaaPBx49, YtmkchdlkpbnldaaPBx39, YtmkchdlkpbnldaaPBx56, YtmkchdlkpbnldaaPBx52, YtmkchdlkpbnldaaPBx53
import Derived.Test.YtmkchdlkpbnldaaPBx0
import Derived.Test.YtmkchdlkpbnldaaDel
import Derived.Sort.OwnSortedInts
import Derived.Test.YtmkchdlkpbnldaaPBx16
import Derived.Test.YtmkchdlkpbnldaaPBx32
import Derived.Test.YtmkchdlkpbnldaaPBx31
import Derived.Test.YtmkchdlkpbnldaaPBx48
namespace Go.Proofs.Ytmkchdlkpbnldaa.PB
open Go.RowKit Go.Proofs.YtmkchdlkpbnldaaW.PrintWords Go.Proofs.YtmkchdlkpbnldaaW.PrintLast Go.Proofs.YtmkchdlkpbnldaaW.PrintMore
attribute [local go_sem] max2_int min2_int max_two min_two max_three min_three max_four min_four   -- for this text's walks alone
open Go.Proofs.YtmkchdlkpbnldaaMine
set_option linter.unusedVariables false
set_option linter.unusedSimpArgs false

/-! ### slices_Delete_int_int: function 51 -/
def slices_Delete_int_int.f (l0 : List Int) (a1 a2 : Int) : Option (List Int) := if 0 ≤ a1 then (if a2 = a1 + 1 then (if a1 < (l0.length : Int) then some (l0.eraseIdx a1.toNat) else none) else none) else none
set_option maxRecDepth 100000 in
set_option maxHeartbeats 800000 in
theorem slices_Delete_int_int.own (v : Value) (base : Nat) (ok : Nat → Prop) (l0 : List Int) (a1 a2 : Int) (r : List Int) (w : World) (ho : Kd.R (Kd.int .i64) 3 w base ok v l0) (h : slices_Delete_int_int.f l0 a1 a2 = some r) :
    Calls Try.prog 51 #[v, .int .i64 a1, .int .i64 a2] w fun e w' => ∃ v0_ : Value, e = .returned v0_ ∧ Kd.R (Kd.int .i64) 3 w' base ok v0_ r ∧ v0_.ownBlock = v.ownBlock ∧ w.grownBy w' v.ownBlock := by
  unfold slices_Delete_int_int.f at h
  split at h
  · rename_i h0
    split at h
    · rename_i h1
      split at h
      · rename_i h2
        injection h with h; subst h
        obtain ⟨i, rfl⟩ := Int.eq_ofNat_of_zero_le h0
        have hi : i < l0.length := by omega
        subst h1
        rw [Int.toNat_natCast]
        obtain ⟨hok, inner, how, hr⟩ := ho
        have he : inner = l0.map (Value.int .i64) := Kd.reps_encs hr
        rcases how.2 with ⟨_, hn⟩ | ⟨g, cap, cur, rfl, hg, hh, hle, hcap, hsz, ht⟩
        · omega
        have hm : maxLen ≤ 9223372036854775807 := by decide
        have ht' : cur.toList.take l0.length = l0.map (Value.int .i64) := by rw [← he, ← ht, show (Kd.int .i64).sz = 1 from rfl, Nat.mul_one]
        have hH := holds_of_blockI hh ht'
        have hsz' : cur.size = cap := by rw [hsz, show (Kd.int .i64).sz = 1 from rfl, Nat.mul_one]
        have hd := del_holds g cap i l0.toArray w hH (by simpa using hle) (by omega) (by simp; omega)
        simp only [List.size_toArray] at hd
        refine (show Calls Try.prog 51 #[.slice (some ⟨g, 0, none⟩) l0.length cap, .int .i64 (i : Int), .int .i64 ((i : Int) + 1)] w _ from hd).mono ?_
        rintro e w' ⟨rfl, q, rfl⟩
        obtain ⟨ts, hts⟩ : ∃ ts : List Int, ts = l0.take i ++ l0.drop (i + 1) ++ List.replicate (i + 1 - i) 0 := ⟨_, rfl⟩
        have htl : ts.length = l0.length := by rw [hts]; simp; omega
        have hlen : (l0.eraseIdx i).length = i + (l0.length - (i + 1)) := by rw [List.length_eraseIdx, if_pos hi]; omega
        rw [← hts]
        have hgb := Go.grownBy_sortedI (w := w) (g := g) (n := q) (os := #[]) ts.toArray
        have hhp := Go.heap_sortedI (w := w) (g := g) (n := q) (os := #[]) ts.toArray hh
        have hgw : Go.Sort.grow (Go.Sort.putRow (Value.int .i64) (Go.Sort.ahead w q) g 0 ts.toArray) #[] = Go.Sort.putRow (Value.int .i64) (Go.Sort.ahead w q) g 0 ts.toArray := by simp [Go.Sort.grow]; rfl
        rw [hgw] at hgb hhp
        refine ⟨_, rfl, ⟨hok, (l0.eraseIdx i).map (Value.int .i64), ⟨by simp [Kd.int, Kd.scalar], .inr ⟨g, cap, _, by rw [hlen], hg, hhp, by omega, hcap, by simp [Go.Sort.putCells, hsz], ?_⟩⟩, Kd.reps_scalar _⟩, rfl, hgb⟩
        rw [show (Kd.int .i64).sz = 1 from rfl, Nat.mul_one]
        have htk := Go.take_putCellsI cur ts (by omega)
        have : (l0.eraseIdx i).length ≤ ts.length := by omega
        rw [← Nat.min_eq_left this, ← List.take_take, htk, ← List.map_take]
        congr 1
        rw [hts, List.eraseIdx_eq_take_drop_succ]
        rw [List.take_append_of_le_length, List.take_of_length_le]
        all_goals (simp; try omega)
      cases h
    cases h
  cases h


end Go.Proofs.Ytmkchdlkpbnldaa.PB

namespace Go.Proofs.Ytmkchdlkpbnldaa.PB
open Go.RowKit Go.Proofs.YtmkchdlkpbnldaaW.PrintWords Go.Proofs.YtmkchdlkpbnldaaW.PrintLast Go.Proofs.YtmkchdlkpbnldaaW.PrintMore
attribute [local go_sem] max2_int min2_int max_two min_two max_three min_three max_four min_four   -- for this text's walks alone
open Go.Proofs.YtmkchdlkpbnldaaMine
set_option linter.unusedVariables false
set_option linter.unusedSimpArgs false

theorem z44_1 {p : Prop} (h : p := by first | rfl | (simp; done) | (simp [*]; done)) : p := h
theorem z44_2 {p : Prop} (h : p := by first | (with_reducible assumption) | assumption) : p := h
theorem z44_3 {p : Prop} (h : p := by first | rfl | (simp [errW_none, errW_some] <;> rfl) | (simp [*, errW_none, errW_some] <;> rfl)) : p := h
theorem z44_4 {p : Prop} (h : p := by repeat (first | (with_reducible first | exact HB.out | apply below_alloc | apply pw_below_drewN | apply below_drew1) | exact HB.out)) : p := h
theorem z44_5 {p : Prop} (h : p := by repeat (first | (with_reducible exact HR209_0.out) | (with_reducible refine Kd.C_alloc ?_ _) | (with_reducible refine Kd.C_drewN ?_ _) | (with_reducible refine Kd.C_drew ?_) | exact HR209_0.out)) : p := h
/-! ### impl_perms: function 44 -/
mutual
def impl_perms.l0 : Nat → List Int → List (List Int) → List Int → Int → Int → Option ((List (List Int)))
  | 0, _, _, _, _, _ => none
  | k + 1, x0, x3, x13, x14, x15 => if x15 < x14 then (if 0 ≤ x15 then (if x15 < (x13.length : Int) then ((slices_Clone_int_int_16.f x0).bind fun t200 => ((slices_Delete_int_int.f t200 x15 (wrap64 (x15 + 1))).bind fun t203 => ((impl_perms.f k t203).bind fun t206 => (impl_perms.l1 k x0 x3 (rd x13 x15) x13 x14 x15 t206 (t206.length : Int) 0)))) else (none)) else (none)) else (some x3)
def impl_perms.l1 : Nat → List Int → List (List Int) → Int → List Int → Int → Int → List (List Int) → Int → Int → Option ((List (List Int)))
  | 0, _, _, _, _, _, _, _, _, _ => none
  | k + 1, x0, x3, x5, x13, x14, x15, x27, x28, x29 => if x29 < x28 then (if 0 ≤ x29 then (if x29 < (x27.length : Int) then ((some (([x5] : List Int) : List Int)).bind fun y210 => (if y210.length + (rd_L5 x27 x29).length < 17592186044416 then (if x3.length < 5864062014805 then (impl_perms.l1 k x0 (x3 ++ [(y210 ++ (rd_L5 x27 x29))]) x5 x13 x14 x15 x27 x28 (wrap64 (x29 + 1))) else (none)) else (none))) else (none)) else (none)) else (impl_perms.l0 k x0 x3 x13 x14 (wrap64 (x15 + 1)))
def impl_perms.f : Nat → List Int → Option ((List (List Int)))
  | 0, _ => none
  | k + 1, l0 => if (l0.length : Int) = 0 then (some (([[]] : List (List Int)))) else (impl_perms.l0 k l0 ([] : List (List Int)) l0 (l0.length : Int) 0)
end
set_option maxHeartbeats 8000000 in
set_option maxRecDepth 100000 in
theorem impl_perms.calls (k : Nat) : ∀ (A0 : Option Addr) (c0 : Nat) (l0 : List Int) (r : List (List Int)) (w : World) (hr0 : Kd.C (Kd.int .i64) w A0 l0.length l0) (hc0 : l0.length ≤ c0) (h : impl_perms.f k l0 = some r),
  Calls Try.prog 44 #[.slice A0 l0.length c0] w fun e w' => ∃ v0_ : Value, e = .returned (v0_) ∧ Kd.S (Kd.slice 3 (Kd.int .i64)) 24 w' w.heap.size (fun _ => True) v0_ r ∧ Below w.heap.size w w' := by
 induction k using Nat.strongRecOn with
 | _ k ih =>
 intro A0 c0 l0 r w hr0 hc0 h
 cases k with
 | zero => exact absurd h (by simp [impl_perms.f])
 | succ k =>
 simp only [impl_perms.f] at h
 have HR0 := am_ hr0
 have HC0 := am_ hc0
 clear hr0 hc0
 have HB := am_ (Below.refl w.heap.size w)
 have H : (if (l0.length : Int) = 0 then (some (([[]] : List (List Int)))) else (impl_perms.l0 k l0 ([] : List (List Int)) l0 (l0.length : Int) 0)) = some r := h
 clear h
 by_cases c2 : (l0.length : Int) = 0
 ·rw [if_pos c2] at H
  have c2b0 : ((l0.length : Int) == 0) = true := beq_iff_eq.mpr c2
  have c2b1 : ((l0.length : Int) != 0) = false := bne_eq_false_iff_eq.mpr c2
  clear c2
  obtain ⟨y196, hy196⟩ : ∃ y_ : List (List Int), y_ = (([[]] : List (List Int))) := ⟨_, rfl⟩
  replace H : (some y196) = some r := by first | (rw [hy196]; with_reducible exact H) | (have H2_ := (Option.bind_some _ _).symm.trans H; rw [hy196]; with_reducible exact H2_) | (have H2_ := (Option.bind_some _ _).symm.trans H; with_reducible exact H2_) | with_reducible exact H | (rw [hy196]; exact H) | exact H
  have Ny196 := am_ hy196
  clear hy196
  obtain rfl := Option.some.inj H
  go_enter Try.func44, Try.ntmps44
  go_wp2_with (first | ((with_reducible refine gate_dst (N := 12) rfl ?_); refine Kd.S_lit (Kd.slice 3 (Kd.int .i64)) _ 24 ?hg (N := 12) ?hd (xs := ([[]] : List (List Int))) (inner := [.slice none 0 0]) (ok := fun _ => True) (okp := fun _ => True) ?hr ?hp (fun _ hk => hk) trivial (Below.refl _ _) (Nat.le_refl _) (by simp) ?_; (case hd => rfl); (case hg => rfl); (case hr => first | (go_simp; done) | (go_simp; rfl)); (case hp => exact (Reps.one (show Kd.M (Kd.slice 3 (Kd.int .i64)) _ _ _ [] [.slice none 0 0] from ⟨_, rfl, Kd.R_nil _ _ _ _ _⟩) (Reps.none _ _))); intro v197 w3 ho4 hb hg_ hnew_; clear hg_ hnew_; (first | rw [← Ny196.out] at ho4 | (simp only [Int.reduceToNat] at ho4; rw [← Ny196.out] at ho4)); have HO198 := am_ (Kd.S_lower ho4 (below_size z44_4)); replace HB := am_ (below_step z44_4 hb); clear hb ho4))
  go_ret
  exact ⟨_, z44_3, su HO198.out, z44_4⟩
 rw [if_neg c2] at H
 have c2b0 : ((l0.length : Int) == 0) = false := beq_eq_false_iff_ne.mpr c2
 have c2b1 : ((l0.length : Int) != 0) = true := bne_iff_ne.mpr c2
 have c2b2 : ¬ (l0 = []) := fun h_ => c2 (by rw [h_]; rfl)
 have H' := am_ H
 clear H
 go_enter Try.func44, Try.ntmps44
 go_wp2
 go_loopg [3, 15] k (fun kq v3 v15 w' => ∃ (x3_1 : List (List Int)) (x15_1 : Int), v15 = .int .i64 x15_1 ∧ Aside0 (impl_perms.l0 kq l0 x3_1 l0 (l0.length : Int) x15_1 = some r) ∧ Aside0 (kq ≤ k) ∧ Aside0 (Kd.S (Kd.slice 3 (Kd.int .i64)) 24 w' w.heap.size (fun _ => True) v3 x3_1) ∧ Aside0 (Below w.heap.size w w'))
 case atStart => exact ⟨(([] : List (List Int))), (0), z44_1, H', ⟨Nat.le_refl _⟩, ⟨by first | exact Kd.S_nil _ _ _ _ _ | exact Kd.N_nil _ _ _ _ _ | exact Kd.V_nil _ _ _ _ _ | exact Kd.Q_nil _ _ _ _ _ | exact Kd.R_nil _ _ _ _ _⟩, ⟨z44_4⟩⟩
 case round =>
  clear H'
  obtain ⟨x3_1, x15_1, rfl, HA, HK1, HO_3, HB⟩ := hrel
  cases gk with
  | zero => exact absurd HA.out (by simp [impl_perms.l0])
  | succ k1 =>
   have H := HA.out
   clear HA
   simp only [impl_perms.l0] at H
   by_cases c5 : x15_1 < (l0.length : Int)
   ·rw [if_pos c5] at H
    have c5b0 : decide (x15_1 < (l0.length : Int)) = true := decide_eq_true c5
    clear c5
    by_cases c6 : 0 ≤ x15_1
    ·rw [if_pos c6] at H
     have c6b0 : decide (0 ≤ x15_1) = true := decide_eq_true c6
     clear c6
     by_cases c7 : x15_1 < (l0.length : Int)
     ·rw [if_pos c7] at H
      have c7b0 : decide (x15_1 < (l0.length : Int)) = true := decide_eq_true c7
      clear c7
      replace H := Option.bind_eq_some_iff.mp H
      obtain ⟨t200, A80, H⟩ := H
      replace H : ((slices_Delete_int_int.f t200 x15_1 (wrap64 (x15_1 + 1))).bind fun t203 => ((impl_perms.f k1 t203).bind fun t206 => (impl_perms.l1 k1 l0 x3_1 (rd l0 x15_1) l0 (l0.length : Int) x15_1 t206 (t206.length : Int) 0))) = some r := H
      have A8 := am_ A80
      clear A80
      replace H := Option.bind_eq_some_iff.mp H
      obtain ⟨t203, A90, H⟩ := H
      replace H : ((impl_perms.f k1 t203).bind fun t206 => (impl_perms.l1 k1 l0 x3_1 (rd l0 x15_1) l0 (l0.length : Int) x15_1 t206 (t206.length : Int) 0)) = some r := H
      have A9 := am_ A90
      clear A90
      replace H := Option.bind_eq_some_iff.mp H
      obtain ⟨t206, A100, H⟩ := H
      replace H : (impl_perms.l1 k1 l0 x3_1 (rd l0 x15_1) l0 (l0.length : Int) x15_1 t206 (t206.length : Int) 0) = some r := H
      have A10 := am_ A100
      clear A100
      have H' := am_ H
      clear H
      have p199 : 0 ≤ (x15_1 : Int) := of_decide_eq_true z44_2
      have q199 : x15_1 < (l0.length : Int) := of_decide_eq_true z44_2
      obtain ⟨ad199, e199, hx199_0⟩ := Kd.at_int HR0.out x15_1 p199 q199
      cases e199
      replace hx199_0 := (HB.out.cell (World.block_lt_of_cell? w _ hx199_0)).trans hx199_0
      replace p199 := eq_true p199
      replace q199 := eq_true q199
      go_wp2_with (first | ((with_reducible refine gate_callee (f := 16) rfl ?_); refine goesL_ (some 21) rfl rfl Try.func16 (by kernel_rfl) rfl #[.slice (some ad199) l0.length c0] rfl (by (try simp only [List.map_toArray, List.map_cons, List.map_nil]); first | done | rfl | (simp only [List.length_drop, List.length_take]; rfl)) ?_; (with_reducible refine (slices_Clone_int_int_16.calls _ _ l0 t200 _ ?side1 ?side2 A8.out).mono ?_); (case side1 => repeat (first | exact (Kd.C_below HR0.out HB.out) | (with_reducible refine Kd.C_alloc ?_ _) | (with_reducible refine Kd.C_drewN ?_ _) | (with_reducible refine Kd.C_drew ?_))); (case side2 => exact HC0.out); rintro e w11 ⟨v201, rfl, ho0, hb⟩; refine ⟨_, rfl, ?_⟩; replace HO_3 := am_ (Kd.S_elder' (su HO_3.out) (Kd.R_base ho0) hb); have HO202 := am_ (Kd.R_lower ho0 (below_size z44_4)); replace HB := am_ (below_step z44_4 hb); (try clear hb); (try clear hb2); (try clear hk); (try clear hi); (try clear ho0); obtain ⟨Ao12, co12, eo12⟩ := Kd.R_slice HO202.out; subst eo12) | ((with_reducible refine gate_callee (f := 51) rfl ?_); refine goesL_ (some 25) rfl rfl Try.func51 (by kernel_rfl) rfl #[.slice Ao12 t200.length co12, .int .i64 x15_1, .int .i64 (wrap64 (x15_1 + 1))] rfl (by (try simp only [List.map_toArray, List.map_cons, List.map_nil]); first | done | rfl | (simp only [List.length_drop, List.length_take]; rfl)) ?_; (refine (slices_Delete_int_int.own _ _ _ t200 x15_1 (wrap64 (x15_1 + 1)) t203 _ (ru HO202.out) A9.out).mono ?_); rintro e w13 ⟨v204, rfl, ho0, hob_, hg_⟩; refine ⟨_, rfl, ?_⟩; have n0_ := am_ (Kd.S_mono (ok' := fun k_ => (True ∧ some k_ ≠ (.slice Ao12 t200.length co12 : Value).ownBlock) ∧ some k_ ≠ (v204 : Value).ownBlock) (Kd.S_grown (su HO_3.out) hg_ (fun _ hk => hk.2)) (fun k_ hk => ⟨hk, by rw [hob_]; exact hk.2⟩)); have n1_ := am_ (Kd.R_nil (Kd.int .i64) 3 w13 w.heap.size (fun _ => True)); have n2_ := am_ ho0; have n3_ := am_ (pw_below_grown HB.out _ (below_size HB.out) hg_ (Kd.R_base (ru HO202.out))); (try clear hg_ hob_); clear HO_3 HO202 HB; have HO_3 := n0_; have HO202 := n1_; have HO205 := n2_; have HB := n3_; clear n0_ n1_ n2_ n3_; (try clear hb); (try clear hb2); (try clear hk); (try clear hi); (try clear ho0); obtain ⟨Ao14, co14, eo14⟩ := Kd.R_slice HO205.out; subst eo14) | ((with_reducible refine gate_callee (f := 44) rfl ?_); refine goesL_ (some 27) rfl rfl Try.func44 (by kernel_rfl) rfl #[.slice Ao14 t203.length co14] rfl (by (try simp only [List.map_toArray, List.map_cons, List.map_nil]); first | done | rfl | (simp only [List.length_drop, List.length_take]; rfl)) ?_; (with_reducible refine (ih k1 (by have := HK1.out; omega) _ _ t203 t206 _ ?side1 ?side2 A10.out).mono ?_); (case side1 => repeat (first | exact (Kd.R_reads' HO205.out).2.2 | (with_reducible refine Kd.C_alloc ?_ _) | (with_reducible refine Kd.C_drewN ?_ _) | (with_reducible refine Kd.C_drew ?_))); (case side2 => exact (Kd.R_reads' HO205.out).2.1); rintro e w15 ⟨v207, rfl, ho0, hb⟩; refine ⟨_, rfl, ?_⟩; have n0_ := am_ (Kd.S_elder' (su HO_3.out) (Kd.S_base ho0) hb); have n1_ := am_ (Kd.R_below (ru HO202.out) hb); have n2_ := am_ (Kd.R_below (ru HO205.out) hb); have n3_ := am_ (Kd.S_lower (Kd.S_new' (Kd.S_new' (Kd.S_new' ho0 (Kd.S_lt (su HO_3.out))) (Kd.R_lt (ru HO202.out))) (Kd.R_lt (ru HO205.out))) (below_size z44_4)); have n4_ := am_ (below_step z44_4 hb); clear HO_3 HO202 HO205 HB; have HO_3 := n0_; have HO202 := n1_; have HO205 := n2_; have HO208 := n3_; have HB := n4_; clear n0_ n1_ n2_ n3_ n4_; (try clear hb); (try clear hb2); (try clear hk); (try clear hi); (try clear ho0); obtain ⟨Ao16, co16, eo16⟩ := Kd.S_slice HO208.out; subst eo16))
      go_loopg [3, 29] k1 (fun kq v3 v29 w' => ∃ (x3_2 : List (List Int)) (x29_2 : Int), v29 = .int .i64 x29_2 ∧ Aside0 (impl_perms.l1 kq l0 x3_2 (rd l0 x15_1) l0 (l0.length : Int) x15_1 t206 (t206.length : Int) x29_2 = some r) ∧ Aside0 (kq ≤ k1) ∧ Aside0 (Kd.S (Kd.slice 3 (Kd.int .i64)) 24 w' w.heap.size (fun k_ => some k_ ≠ ((.slice Ao16 t206.length co16) : Value).ownBlock) v3 x3_2) ∧ Aside0 (Kd.S (Kd.slice 3 (Kd.int .i64)) 24 w' w.heap.size (fun k_ => some k_ ≠ (v3 : Value).ownBlock) (.slice Ao16 t206.length co16) t206) ∧ Aside0 (Below w.heap.size w w'))
      case atStart => exact ⟨(x3_1), (0), z44_1, H', ⟨Nat.le_refl _⟩, ⟨su (Kd.S_mono HO_3.out (fun _ hk => hk.2))⟩, ⟨su (Kd.S_mono HO208.out (fun _ hk => hk.1.1.2))⟩, ⟨z44_4⟩⟩
      case round =>
       clear H'
       obtain ⟨x3_2, x29_2, rfl, HA, HK2, HO_3, HO_27, HB⟩ := hrel
       cases gk with
       | zero => exact absurd HA.out (by simp [impl_perms.l1])
       | succ k2 =>
        have H := HA.out
        clear HA
        simp only [impl_perms.l1] at H
        by_cases c17 : x29_2 < (t206.length : Int)
        ·rw [if_pos c17] at H
         have c17b0 : decide (x29_2 < (t206.length : Int)) = true := decide_eq_true c17
         clear c17
         by_cases c18 : 0 ≤ x29_2
         ·rw [if_pos c18] at H
          have c18b0 : decide (0 ≤ x29_2) = true := decide_eq_true c18
          clear c18
          by_cases c19 : x29_2 < (t206.length : Int)
          ·rw [if_pos c19] at H
           have c19b0 : decide (x29_2 < (t206.length : Int)) = true := decide_eq_true c19
           clear c19
           obtain ⟨y210, hy210⟩ : ∃ y_ : List Int, y_ = (([(rd l0 x15_1)] : List Int)) := ⟨_, rfl⟩
           replace H : (if y210.length + (rd_L5 t206 x29_2).length < 17592186044416 then (if x3_2.length < 5864062014805 then (impl_perms.l1 k2 l0 (x3_2 ++ [(y210 ++ (rd_L5 t206 x29_2))]) (rd l0 x15_1) l0 (l0.length : Int) x15_1 t206 (t206.length : Int) (wrap64 (x29_2 + 1))) else (none)) else (none)) = some r := by first | (rw [hy210]; with_reducible exact H) | (have H2_ := (Option.bind_some _ _).symm.trans H; rw [hy210]; with_reducible exact H2_) | (have H2_ := (Option.bind_some _ _).symm.trans H; with_reducible exact H2_) | with_reducible exact H | (rw [hy210]; exact H) | exact H
           have Ny210 := am_ hy210
           clear hy210
           by_cases c20 : y210.length + (rd_L5 t206 x29_2).length < 17592186044416
           ·rw [if_pos c20] at H
            have LMc20 := am_ c20
            clear c20
            obtain ⟨y213, hy213⟩ : ∃ y_ : List Int, y_ = (y210 ++ (rd_L5 t206 x29_2)) := ⟨_, rfl⟩
            replace H : (if x3_2.length < 5864062014805 then (impl_perms.l1 k2 l0 (x3_2 ++ [y213]) (rd l0 x15_1) l0 (l0.length : Int) x15_1 t206 (t206.length : Int) (wrap64 (x29_2 + 1))) else (none)) = some r := by first | (rw [hy213]; with_reducible exact H) | (have H2_ := (Option.bind_some _ _).symm.trans H; rw [hy213]; with_reducible exact H2_) | (have H2_ := (Option.bind_some _ _).symm.trans H; with_reducible exact H2_) | with_reducible exact H | (rw [hy213]; exact H) | exact H
            have Ny213 := am_ hy213
            clear hy213
            by_cases c21 : x3_2.length < 5864062014805
            ·rw [if_pos c21] at H
             have LMc21 := am_ c21
             clear c21
             obtain ⟨y216, hy216⟩ : ∃ y_ : List (List Int), y_ = (x3_2 ++ [y213]) := ⟨_, rfl⟩
             replace H : (impl_perms.l1 k2 l0 y216 (rd l0 x15_1) l0 (l0.length : Int) x15_1 t206 (t206.length : Int) (wrap64 (x29_2 + 1))) = some r := by first | (rw [hy216]; with_reducible exact H) | (have H2_ := (Option.bind_some _ _).symm.trans H; rw [hy216]; with_reducible exact H2_) | (have H2_ := (Option.bind_some _ _).symm.trans H; with_reducible exact H2_) | with_reducible exact H | (rw [hy216]; exact H) | exact H
             have Ny216 := am_ hy216
             clear hy216
             have H' := am_ H
             clear H
             have p209 : 0 ≤ (x29_2 : Int) := of_decide_eq_true z44_2
             have q209 : x29_2 < (t206.length : Int) := of_decide_eq_true z44_2
             obtain ⟨ad209, A209_0, c209_0, e209, hx209_0, hl209_0, hi209_0⟩ := at_L5 (Kd.S_reads' HO_27.out).2.2 x29_2 p209 q209
             cases e209
             obtain ⟨ce209, hce209, hMe209, hcc209⟩ := Kd.S_get HO_27.out [] x29_2 p209 (by first | exact q209 | exact of_decide_eq_true z44_2 | (have e_ := (Kd.S_reads' HO_27.out).1; omega))
             obtain ⟨ve209_0, rfl, ge209_0⟩ := hMe209
             have hv209_0 := hcc209 0 _ rfl
             rw [Nat.add_zero, show ((Kd.slice 3 (Kd.int .i64))).sz = 1 from rfl, Nat.mul_one] at hv209_0
             replace hv209_0 := Option.some.inj (hv209_0.symm.trans hx209_0)
             rw [hv209_0] at ge209_0
             have HL209_0 := am_ (show Kd.R (Kd.int .i64) 3 _ _ _ _ (rd_L5 t206 x29_2) from ge209_0)
             clear hv209_0 ge209_0 hcc209 hce209
             have HR209_0 := am_ hi209_0
             have HC209_0 := am_ hl209_0
             clear hi209_0 hl209_0
             replace p209 := eq_true p209
             replace q209 := eq_true q209
             go_wp2_with (first | ((with_reducible refine gate_dst (N := 35) rfl ?_); refine Kd.R_lit (Kd.int .i64) _ 3 ?hg (N := 35) ?hd (xs := ([(rd l0 x15_1)] : List Int)) (inner := [.int .i64 (rd l0 x15_1)]) (ok := fun _ => True) (okp := fun _ => True) ?hr ?hp (fun _ hk => hk) trivial (Below.refl _ _) (Nat.le_refl _) (by simp) ?_; (case hd => rfl); (case hg => rfl); (case hr => first | (go_simp; done) | (go_simp; rfl)); (case hp => exact (Reps.one (show Kd.M (Kd.int .i64) _ _ _ (rd l0 x15_1) [.int .i64 (rd l0 x15_1)] from rfl) (Reps.none _ _))); intro v211 w22 ho23 hb hg_ hnew_; clear hg_ hnew_; (first | rw [← Ny210.out] at ho23 | (simp only [Int.reduceToNat] at ho23; rw [← Ny210.out] at ho23)); have n0_ := am_ (Kd.S_elder' (su HO_3.out) (Kd.R_base ho23) hb); have n1_ := am_ (Kd.S_elder' (su HO_27.out) (Kd.R_base ho23) hb); have n2_ := am_ (Kd.R_elder' (ru HL209_0.out) (Kd.R_base ho23) hb); have n3_ := am_ (Kd.R_lower (Kd.R_new' ho23 (Kd.R_lt (ru HL209_0.out))) (below_size z44_4)); have n4_ := am_ (Kd.C_below z44_5 hb); have n5_ := am_ (below_step z44_4 hb); clear HO_3 HO_27 HL209_0 HR209_0 HB; have HO_3 := n0_; have HO_27 := n1_; have HL209_0 := n2_; have HO212 := n3_; have HR209_0 := n4_; have HB := n5_; clear n0_ n1_ n2_ n3_ n4_ n5_; clear hb ho23) | ((with_reducible refine gate_builtin (b := .append) (xs := #[.tmp 35, .tmp 36]) rfl ?_); at_builtin; refine Kd.R_append_rows (Kd.int .i64) (w0 := w) w.heap.size rfl (.tmp 35) (.tmp 36) 24 3 (.int .i64 0) 8 rfl Try.underlying24 info3 rfl (by decide) (by omega) v211 y210 (rd_L5 t206 x29_2) _ _ _ (fun k_ => some k_ ≠ (.slice A209_0 (rd_L5 t206 x29_2).length c209_0 : Value).ownBlock) (fun _ => False) rfl rfl ?aO ?aR (fun _ _ h => h) (fun _ h => h.elim) ?aF ?aB ?aS ?aL ?_; (case aR => repeat (first | exact z44_5 | (with_reducible refine Kd.C_alloc ?_ _) | (with_reducible refine Kd.C_drewN ?_ _) | (with_reducible refine Kd.C_drew ?_))); (case aB => exact z44_4); (case aF => exact (fun k_ hk => Kd.fresh' (Kd.R_lt (ru HL209_0.out)) k_ hk)); (case aO => exact (ru (Kd.R_mono HO212.out (fun _ hk => hk.2)))); (case aS => exact (below_size z44_4)); (case aL => have := LMc20.out; omega); intro v214 w24 ho hb hg hat; rw [← Ny213.out] at ho; replace HO_3 := am_ (Kd.S_after (ok := (fun k_ => some k_ ≠ (.slice (some ad209) t206.length co16 : Value).ownBlock)) (su HO_3.out) hg hat); replace HO_27 := am_ (Kd.S_after (ok := (fun k_ => some k_ ≠ (u3 : Value).ownBlock)) (su HO_27.out) hg hat); replace HL209_0 := am_ (Kd.R_after (ok := (fun k_ => some k_ ≠ (u3 : Value).ownBlock ∧ some k_ ≠ (.slice (some ad209) t206.length co16 : Value).ownBlock)) (ru HL209_0.out) hg hat); replace HB := am_ (hb); have HO215 := am_ (ho); clear HO212; clear ho hb hg hat; obtain ⟨Ao26, co26, eo26⟩ := Kd.R_slice HO215.out; subst eo26) | ((with_reducible refine gate_builtin (b := .append) (xs := #[.tmp 33, .tmp 38]) rfl ?_); at_builtin; refine Kd.S_append (Kd.slice 3 (Kd.int .i64)) (w0 := w) w.heap.size rfl (.tmp 33) (.tmp 38) 38 24 (.slice none 0 0) 24 rfl Try.underlying38 info24 rfl (by decide) (by omega) u3 x3_2 y213 [.slice Ao26 y213.length co26] (fun k_ => some k_ ≠ (.slice (some ad209) t206.length co16 : Value).ownBlock) (fun k_ => some k_ = (.slice Ao26 y213.length co26 : Value).ownBlock) rfl rfl ?aP (fun k_ hk_ => ((Kd.R_mono (ok' := fun k_ => ((fun k_ => some k_ ≠ (.slice (some ad209) t206.length co16 : Value).ownBlock)) k_ ∧ some k_ ≠ (u3 : Value).ownBlock) (Kd.R_apart' (Kd.R_apart' (HO215.out) (Kd.S_typed HO_27.out) (by decide)) (Kd.S_typed HO_3.out) (by decide)) (fun k_ hk => ⟨hk.1.2, hk.2⟩))).1 k_ hk_.symm) ?aF ?aO ?aB ?aS ?aL ?_; (case aP => exact Kd.M_row (Kd.R_mono (Kd.R_tight rfl (Kd.R_mono (ok' := fun k_ => ((fun k_ => some k_ ≠ (.slice (some ad209) t206.length co16 : Value).ownBlock)) k_ ∧ some k_ ≠ (u3 : Value).ownBlock) (Kd.R_apart' (Kd.R_apart' (HO215.out) (Kd.S_typed HO_27.out) (by decide)) (Kd.S_typed HO_3.out) (by decide)) (fun k_ hk => ⟨hk.1.2, hk.2⟩))) (fun _ h_ => h_))); (case aB => exact z44_4); (case aF => exact (fun k_ hk => Kd.fresh' (Kd.S_lt (su HO_27.out)) k_ hk)); (case aO => exact (su (Kd.S_mono HO_3.out (fun k_ hk => ⟨hk.1, fun e_ => hk.2 e_⟩)))); (case aS => exact (below_size z44_4)); (case aL => have := LMc21.out; omega); intro v217 w25 ho hb hg hat; rw [← Ny216.out] at ho; replace HO_27 := am_ (Kd.S_after (ok := (fun k_ => some k_ ≠ (.slice Ao26 y213.length co26 : Value).ownBlock)) (su (Kd.S_mono HO_27.out (fun _ hk => ⟨hk.2, hk.1⟩))) hg hat); replace HL209_0 := am_ (Kd.R_after (ok := (fun k_ => some k_ ≠ (.slice (some ad209) t206.length co16 : Value).ownBlock ∧ some k_ ≠ (.slice Ao26 y213.length co26 : Value).ownBlock)) (ru (Kd.R_mono HL209_0.out (fun _ hk => ⟨⟨hk.1.2, hk.2⟩, hk.1.1⟩))) hg hat); replace HB := am_ (hb); have HO218 := am_ (ho); clear HO_3 HO215; clear ho hb hg hat))
             go_roundg k2
             case measure => have := HK1.out; have := HK2.out; omega
             case rel => exact ⟨(y216), (wrap64 (x29_2 + 1)), z44_1, H', ⟨by have := HK1.out; have := HK2.out; omega⟩, ⟨su HO218.out⟩, ⟨su (Kd.S_mono HO_27.out (fun _ hk => hk.2))⟩, ⟨z44_4⟩⟩
            rw [if_neg c21] at H
            exact absurd H (by simp)
           rw [if_neg c20] at H
           exact absurd H (by simp)
          rw [if_neg c19] at H
          exact absurd H (by simp)
         rw [if_neg c18] at H
         exact absurd H (by simp)
        rw [if_neg c17] at H
        have c17b0 : decide (x29_2 < (t206.length : Int)) = false := decide_eq_false c17
        clear c17
        have H' := am_ H
        clear H
        go_wp2
        go_roundg k2
        case measure => have := HK1.out; have := HK2.out; omega
        case rel => exact ⟨(x3_2), (wrap64 (x15_1 + 1)), z44_1, H', ⟨by have := HK1.out; have := HK2.out; omega⟩, ⟨su (Kd.S_mono HO_3.out (fun _ hk => trivial))⟩, ⟨z44_4⟩⟩
     rw [if_neg c7] at H
     exact absurd H (by simp)
    rw [if_neg c6] at H
    exact absurd H (by simp)
   rw [if_neg c5] at H
   have c5b0 : decide (x15_1 < (l0.length : Int)) = false := decide_eq_false c5
   clear c5
   obtain rfl := Option.some.inj H
   go_wp2
   go_ret
   exact ⟨_, z44_3, su HO_3.out, z44_4⟩

end Go.Proofs.Ytmkchdlkpbnldaa.PB

namespace Go.Proofs.Ytmkchdlkpbnldaa.PB
open Go.RowKit Go.Proofs.YtmkchdlkpbnldaaW.PrintWords Go.Proofs.YtmkchdlkpbnldaaW.PrintLast Go.Proofs.YtmkchdlkpbnldaaW.PrintMore
attribute [local go_sem] max2_int min2_int max_two min_two max_three min_three max_four min_four   -- for this text's walks alone
open Go.Proofs.YtmkchdlkpbnldaaMine
set_option linter.unusedVariables false
set_option linter.unusedSimpArgs false

theorem z45_1 {p : Prop} (h : p := by first | rfl | (simp; done) | (simp [*]; done)) : p := h
theorem z45_2 {p : Prop} (h : p := by first | (with_reducible assumption) | assumption) : p := h
theorem z45_3 {p : Prop} (h : p := by repeat (first | (with_reducible first | exact HB.out | apply below_alloc | apply pw_below_drewN | apply below_drew1) | exact HB.out)) : p := h
theorem z45_4 {p : Prop} (h : p := by repeat (first | (with_reducible first | exact HB.out | apply below_alloc | apply pw_below_drewN | apply below_drew1 | refine below_set ?_ GE219.out) | exact HB.out)) : p := h
theorem z45_5 {p : Prop} (h : p := by repeat (first | (with_reducible first | exact HB.out | apply below_alloc | apply pw_below_drewN | apply below_drew1 | refine below_set ?_ GE219.out | refine below_set ?_ GE221.out) | exact HB.out)) : p := h
theorem z45_6 {p : Prop} (h : p := by (with_reducible repeat (first | refine blk_drewN ?_ _ | refine blk_drew ?_ | refine blk_alloc ?_ _)); refine blk_far ?_ NB219_221.out _; (with_reducible repeat (first | refine blk_drewN ?_ _ | refine blk_drew ?_ | refine blk_alloc ?_ _)); refine blk_far ?_ NB219_221.out _; (with_reducible repeat (first | refine blk_drewN ?_ _ | refine blk_drew ?_ | refine blk_alloc ?_ _)); refine blk_far ?_ NB219_221.out _; (with_reducible repeat (first | refine blk_drewN ?_ _ | refine blk_drew ?_ | refine blk_alloc ?_ _)); exact BK219.out) : p := h
theorem z45_7 {p : Prop} (h : p := by (with_reducible repeat (first | refine blk_drewN ?_ _ | refine blk_drew ?_ | refine blk_alloc ?_ _)); refine blk_put (cs := #[.int .i64 ((rd_T70 l0_2 x11_1).f0), .int .i64 ((rd_T70 l0_2 x11_1).f1), .int .i64 0]) ?_ 2 _ rfl; (with_reducible repeat (first | refine blk_drewN ?_ _ | refine blk_drew ?_ | refine blk_alloc ?_ _)); refine blk_put (cs := #[.int .i64 ((rd_T70 l0_2 x11_1).f0), .int .i64 0, .int .i64 0]) ?_ 1 _ rfl; (with_reducible repeat (first | refine blk_drewN ?_ _ | refine blk_drew ?_ | refine blk_alloc ?_ _)); refine blk_put (cs := #[.int .i64 0, .int .i64 0, .int .i64 0]) ?_ 0 _ rfl; (with_reducible repeat (first | refine blk_drewN ?_ _ | refine blk_drew ?_ | refine blk_alloc ?_ _)); exact BK221.out) : p := h
/-! ### impl_scene_writers: function 45 -/
def impl_scene_writers.l0 : Nat → Int → List Int → List (S70) → Int → Int → Option (List Int)
  | 0, _, _, _, _, _ => none
  | k + 1, x1, x5, x9, x10, x11 => if x11 < x10 then (if 0 ≤ x11 then (if x11 < (x9.length : Int) then ((impl_Do_writes.f ((rd_T70 x9 x11).f0) ((rd_T70 x9 x11).f1) ((rd_T70 x9 x11).f2)).bind fun t222 => (if t222 = true then (if ((rd_T70 x9 x11).f1) = x1 then (if x5.length < 17592186044416 then (impl_scene_writers.l0 k x1 (x5 ++ [x11]) x9 x10 (wrap64 (x11 + 1))) else (none)) else (impl_scene_writers.l0 k x1 x5 x9 x10 (wrap64 (x11 + 1)))) else (impl_scene_writers.l0 k x1 x5 x9 x10 (wrap64 (x11 + 1))))) else (none)) else (none)) else (some x5)
def impl_scene_writers.f (k : Nat) (l0_0 : List (List (S70))) (l0_1 : List (S80)) (l0_2 : List (S70)) (a1 : Int) : Option (List Int) := impl_scene_writers.l0 k a1 ([] : List Int) l0_2 (l0_2.length : Int) 0
set_option maxHeartbeats 8000000 in
set_option maxRecDepth 100000 in
theorem impl_scene_writers.calls (k : Nat) (A0_0 : Option Addr) (c0_0 : Nat) (l0_0 : List (List (S70))) (A0_1 : Option Addr) (c0_1 : Nat) (l0_1 : List (S80)) (A0_2 : Option Addr) (c0_2 : Nat) (l0_2 : List (S70)) (a1 : Int) (r : List Int) (w : World) (hr0_0 : Kd.C (Kd.slice 70 k70) w A0_0 l0_0.length l0_0) (hc0_0 : l0_0.length ≤ c0_0) (hr0_1 : Kd.C k80 w A0_1 l0_1.length l0_1) (hc0_1 : l0_1.length ≤ c0_1) (hr0_2 : Kd.C k70 w A0_2 l0_2.length l0_2) (hc0_2 : l0_2.length ≤ c0_2) (h : impl_scene_writers.f k l0_0 l0_1 l0_2 a1 = some r) :
  Calls Try.prog 45 #[.agg #[.slice A0_0 l0_0.length c0_0, .slice A0_1 l0_1.length c0_1, .slice A0_2 l0_2.length c0_2], .int .i64 a1] w fun e w' => ∃ v0_ : Value, e = .returned (v0_) ∧ Kd.R (Kd.int .i64) 3 w' w.heap.size (fun _ => True) v0_ r ∧ Below w.heap.size w w' := by
 have hu60 := Try.underlying60
 have hu70 := Try.underlying70
 have HR0_0 := am_ hr0_0
 have HC0_0 := am_ hc0_0
 clear hr0_0 hc0_0
 have HR0_1 := am_ hr0_1
 have HC0_1 := am_ hc0_1
 clear hr0_1 hc0_1
 have HR0_2 := am_ hr0_2
 have HC0_2 := am_ hc0_2
 clear hr0_2 hc0_2
 have HB := am_ (Below.refl w.heap.size w)
 have H : (impl_scene_writers.l0 k a1 ([] : List Int) l0_2 (l0_2.length : Int) 0) = some r := h
 clear h
 have H' := am_ H
 clear H
 go_enter Try.func45, Try.ntmps45
 go_wp2_with (first | ((with_reducible refine gate_dst (N := 2) rfl ?_); refine box_event ?hg (N := 2) ?hd (cs := #[.slice A0_0 l0_0.length c0_0, .slice A0_1 l0_1.length c0_1, .slice A0_2 l0_2.length c0_2]) (t := 60) ?hr ?_; (case hd => rfl); (case hg => rfl); (case hr => first | (go_simp; done) | (go_simp; rfl)); intro gb219 hg w3 hbox hb; have n0_ := am_ (below_step z45_3 hb); have n1_ := am_ (hbox); have n2_ := am_ (by rw [hg]; exact (below_size z45_3) : w.heap.size ≤ gb219); have n3_ := am_ (by rw [hg]; exact (below_size z45_3) : w.heap.size ≤ gb219); clear HB; have HB := n0_; have BK219 := n1_; have GW219 := n2_; have GE219 := n3_; clear n0_ n1_ n2_ n3_; clear hb hbox hg; have hcz4_0 := cf0 BK219.out; have hcz4_1 := cf1 BK219.out; have hcz4_2 := cf2 BK219.out; have hfz4_0 := blk_frozen BK219.out 0; have hfz4_1 := blk_frozen BK219.out 1; have hfz4_2 := blk_frozen BK219.out 2))
 go_loopg [5, 11] k (fun kq v5 v11 w' => ∃ (x5_1 : List Int) (x11_1 : Int), v11 = .int .i64 x11_1 ∧ Aside0 (impl_scene_writers.l0 kq a1 x5_1 l0_2 (l0_2.length : Int) x11_1 = some r) ∧ Aside0 (kq ≤ k) ∧ Aside0 (Kd.R (Kd.int .i64) 3 w' w.heap.size (fun _ => True) v5 x5_1) ∧ Aside0 (w'.heap[gb219]? = some (.cells #[(.slice A0_0 l0_0.length c0_0), (.slice A0_1 l0_1.length c0_1), (.slice A0_2 l0_2.length c0_2)] 60 (0, 0))) ∧ Aside0 (Below w.heap.size w w'))
 case atStart => exact ⟨(([] : List Int)), (0), z45_1, H', ⟨Nat.le_refl _⟩, ⟨by first | exact Kd.R_nil _ _ _ _ _ | exact Kd.N_nil _ _ _ _ _ | exact Kd.V_nil _ _ _ _ _ | exact Kd.Q_nil _ _ _ _ _ | exact Kd.S_nil _ _ _ _ _⟩, ⟨bu BK219.out⟩, ⟨z45_4⟩⟩
 case round =>
  clear H'
  obtain ⟨x5_1, x11_1, rfl, HA, HK1, HO_5, BK219, HB⟩ := hrel
  cases gk with
  | zero => exact absurd HA.out (by simp [impl_scene_writers.l0])
  | succ k1 =>
   have H := HA.out
   clear HA
   simp only [impl_scene_writers.l0] at H
   by_cases c5 : x11_1 < (l0_2.length : Int)
   ·rw [if_pos c5] at H
    have c5b0 : decide (x11_1 < (l0_2.length : Int)) = true := decide_eq_true c5
    clear c5
    by_cases c6 : 0 ≤ x11_1
    ·rw [if_pos c6] at H
     have c6b0 : decide (0 ≤ x11_1) = true := decide_eq_true c6
     clear c6
     by_cases c7 : x11_1 < (l0_2.length : Int)
     ·rw [if_pos c7] at H
      have c7b0 : decide (x11_1 < (l0_2.length : Int)) = true := decide_eq_true c7
      clear c7
      replace H := Option.bind_eq_some_iff.mp H
      obtain ⟨t222, A80, H⟩ := H
      replace H : (if t222 = true then (if ((rd_T70 l0_2 x11_1).f1) = a1 then (if x5_1.length < 17592186044416 then (impl_scene_writers.l0 k1 a1 (x5_1 ++ [x11_1]) l0_2 (l0_2.length : Int) (wrap64 (x11_1 + 1))) else (none)) else (impl_scene_writers.l0 k1 a1 x5_1 l0_2 (l0_2.length : Int) (wrap64 (x11_1 + 1)))) else (impl_scene_writers.l0 k1 a1 x5_1 l0_2 (l0_2.length : Int) (wrap64 (x11_1 + 1)))) = some r := H
      have A8 := am_ A80
      clear A80
      by_cases c9 : t222 = true
      ·subst c9
       have H1 : (if ((rd_T70 l0_2 x11_1).f1) = a1 then (if x5_1.length < 17592186044416 then (impl_scene_writers.l0 k1 a1 (x5_1 ++ [x11_1]) l0_2 (l0_2.length : Int) (wrap64 (x11_1 + 1))) else (none)) else (impl_scene_writers.l0 k1 a1 x5_1 l0_2 (l0_2.length : Int) (wrap64 (x11_1 + 1)))) = some r := by rw [if_pos rfl] at H; exact H
       clear H
       have H := H1
       clear H1
       by_cases c10 : ((rd_T70 l0_2 x11_1).f1) = a1
       ·rw [if_pos c10] at H
        have c10b0 : (((rd_T70 l0_2 x11_1).f1) == a1) = true := beq_iff_eq.mpr c10
        have c10b1 : (((rd_T70 l0_2 x11_1).f1) != a1) = false := bne_eq_false_iff_eq.mpr c10
        clear c10
        by_cases c11 : x5_1.length < 17592186044416
        ·rw [if_pos c11] at H
         have LMc11 := am_ c11
         clear c11
         obtain ⟨y223, hy223⟩ : ∃ y_ : List Int, y_ = (x5_1 ++ [x11_1]) := ⟨_, rfl⟩
         replace H : (impl_scene_writers.l0 k1 a1 y223 l0_2 (l0_2.length : Int) (wrap64 (x11_1 + 1))) = some r := by first | (rw [hy223]; with_reducible exact H) | (have H2_ := (Option.bind_some _ _).symm.trans H; rw [hy223]; with_reducible exact H2_) | (have H2_ := (Option.bind_some _ _).symm.trans H; with_reducible exact H2_) | with_reducible exact H | (rw [hy223]; exact H) | exact H
         have Ny223 := am_ hy223
         clear hy223
         have H' := am_ H
         clear H
         have p220 : 0 ≤ (x11_1 : Int) := of_decide_eq_true z45_2
         have q220 : x11_1 < (l0_2.length : Int) := of_decide_eq_true z45_2
         obtain ⟨ad220, e220, hx220_0, hx220_1, hx220_2⟩ := at_T70 HR0_2.out x11_1 p220 q220
         cases e220
         replace hx220_0 := (HB.out.cell (World.block_lt_of_cell? w _ hx220_0)).trans hx220_0
         replace hx220_1 := (HB.out.cell (World.block_lt_of_cell? w _ hx220_1)).trans hx220_1
         replace hx220_2 := (HB.out.cell (World.block_lt_of_cell? w _ hx220_2)).trans hx220_2
         replace p220 := eq_true p220
         replace q220 := eq_true q220
         go_wp2_with (first | ((with_reducible refine gate_dst (N := 7) rfl ?_); refine box_event ?hg (N := 7) ?hd (cs := #[.int .i64 0, .int .i64 0, .int .i64 0]) (t := 70) ?hr ?_; (case hd => rfl); (case hg => rfl); (case hr => first | (go_simp; done) | (go_simp; rfl)); intro gb221 hg w12 hbox hb; have n0_ := am_ (Kd.R_below (ru HO_5.out) hb); have n1_ := am_ (blk_below (bu BK219.out) hb); have n2_ := am_ (below_step z45_4 hb); have n3_ := am_ (hbox); have n4_ := am_ (by rw [hg]; exact (below_size z45_4) : w.heap.size ≤ gb221); have n5_ := am_ (by rw [hg]; exact (below_size z45_4) : w.heap.size ≤ gb221); have n6_ := am_ (by rw [hg]; exact Nat.ne_of_lt (blk_lt (bu BK219.out)) : gb219 ≠ gb221); have n7_ := am_ (by rw [hg]; exact Nat.ne_of_gt (blk_lt (bu BK219.out)) : gb221 ≠ gb219); clear HO_5 BK219 HB; have HO_5 := n0_; have BK219 := n1_; have HB := n2_; have BK221 := n3_; have GW221 := n4_; have GE221 := n5_; have NB219_221 := n6_; have NB221_219 := n7_; clear n0_ n1_ n2_ n3_ n4_ n5_ n6_ n7_; clear hb hbox hg; have hnb13 := NB221_219.out; have hnc13 := NB219_221.out; have hcz14_0 := cf0 BK221.out; have hcz14_1 := cf1 BK221.out; have hcz14_2 := cf2 BK221.out; have hfz14_0 := blk_frozen BK221.out 0; have hfz14_1 := blk_frozen BK221.out 1; have hfz14_2 := blk_frozen BK221.out 2) | ((with_reducible refine gate_callee (f := 32) rfl ?_); refine goesL_ (some 17) rfl rfl Try.func32 (by kernel_rfl) rfl #[.agg #[.int .i64 ((rd_T70 l0_2 x11_1).f0), .int .i64 ((rd_T70 l0_2 x11_1).f1), .int .i64 ((rd_T70 l0_2 x11_1).f2)]] rfl (by (try simp only [List.map_toArray, List.map_cons, List.map_nil]); first | done | rfl | (simp only [List.length_drop, List.length_take]; rfl)) ?_; (with_reducible refine (impl_Do_writes.calls ((rd_T70 l0_2 x11_1).f0) ((rd_T70 l0_2 x11_1).f1) ((rd_T70 l0_2 x11_1).f2) true _ A8.out).mono ?_); rintro e w15 ⟨rfl, hb⟩; refine ⟨_, rfl, ?_⟩; replace HO_5 := am_ (Kd.R_below (ru (Kd.R_mono (Kd.R_far (p := ⟨gb221, 2, none⟩) (Kd.R_far (p := ⟨gb221, 1, none⟩) (Kd.R_far (p := ⟨gb221, 0, none⟩) (Kd.R_types HO_5.out BK221.out (by decide)) (fun _ hk => hk.2) (.int .i64 ((rd_T70 l0_2 x11_1).f0))) (fun _ hk => hk.2) (.int .i64 ((rd_T70 l0_2 x11_1).f1))) (fun _ hk => hk.2) (.int .i64 ((rd_T70 l0_2 x11_1).f2))) (fun _ h_ => h_.1))) hb); replace BK219 := am_ (blk_below (g := gb219) (o := .cells #[.slice A0_0 l0_0.length c0_0, .slice A0_1 l0_1.length c0_1, .slice (some ad220) l0_2.length c0_2] 60 (0, 0)) z45_6 hb); replace BK221 := am_ (blk_below (g := gb221) (o := .cells #[.int .i64 ((rd_T70 l0_2 x11_1).f0), .int .i64 ((rd_T70 l0_2 x11_1).f1), .int .i64 ((rd_T70 l0_2 x11_1).f2)] 70 (0, 0)) z45_7 hb); replace HB := am_ (below_step z45_5 hb); (try clear hb); (try clear hb2); (try clear hk); (try clear hi); have hcz16_0 := cf0 BK221.out; have hcz16_1 := cf1 BK221.out; have hcz16_2 := cf2 BK221.out; have hfz16_0 := blk_frozen BK221.out 0; have hfz16_1 := blk_frozen BK221.out 1; have hfz16_2 := blk_frozen BK221.out 2) | ((with_reducible refine gate_builtin (b := .append) (xs := #[.tmp 24, .tmp 26]) rfl ?_); at_builtin; refine Kd.R_append (Kd.int .i64) (w0 := w) w.heap.size rfl (.tmp 24) (.tmp 26) 24 3 (.int .i64 0) 8 rfl Try.underlying24 info3 rfl (by decide) (by omega) u5 x5_1 x11_1 [.int .i64 x11_1] (fun _ => True) (fun _ => False) rfl rfl ?aP (fun _ hk => hk.elim) ?aF ?aO ?aB ?aS ?aL ?_; (case aP => exact rfl); (case aB => exact z45_5); (case aF => exact (fun _ _ => trivial)); (case aO => exact (ru HO_5.out)); (case aS => exact (below_size z45_5)); (case aL => have := LMc11.out; omega); intro v224 w17 ho hb hg hat; rw [← Ny223.out] at ho; replace BK219 := am_ (blk_grown (bu BK219.out) hg (Kd.R_ne HO_5.out BK219.out (by decide))); replace BK221 := am_ (blk_grown (bu BK221.out) hg (Kd.R_ne HO_5.out BK221.out (by decide))); replace HB := am_ (hb); have HO225 := am_ (ho); clear HO_5; clear ho hb hg hat))
         go_roundg k1
         case measure => have := HK1.out; omega
         case rel => exact ⟨(y223), (wrap64 (x11_1 + 1)), z45_1, H', ⟨by have := HK1.out; omega⟩, ⟨ru HO225.out⟩, ⟨bu BK219.out⟩, ⟨z45_5⟩⟩
        rw [if_neg c11] at H
        exact absurd H (by simp)
       rw [if_neg c10] at H
       have c10b0 : (((rd_T70 l0_2 x11_1).f1) == a1) = false := beq_eq_false_iff_ne.mpr c10
       have c10b1 : (((rd_T70 l0_2 x11_1).f1) != a1) = true := bne_iff_ne.mpr c10
       have H' := am_ H
       clear H
       have p220 : 0 ≤ (x11_1 : Int) := of_decide_eq_true z45_2
       have q220 : x11_1 < (l0_2.length : Int) := of_decide_eq_true z45_2
       obtain ⟨ad220, e220, hx220_0, hx220_1, hx220_2⟩ := at_T70 HR0_2.out x11_1 p220 q220
       cases e220
       replace hx220_0 := (HB.out.cell (World.block_lt_of_cell? w _ hx220_0)).trans hx220_0
       replace hx220_1 := (HB.out.cell (World.block_lt_of_cell? w _ hx220_1)).trans hx220_1
       replace hx220_2 := (HB.out.cell (World.block_lt_of_cell? w _ hx220_2)).trans hx220_2
       replace p220 := eq_true p220
       replace q220 := eq_true q220
       go_wp2_with (first | ((with_reducible refine gate_dst (N := 7) rfl ?_); refine box_event ?hg (N := 7) ?hd (cs := #[.int .i64 0, .int .i64 0, .int .i64 0]) (t := 70) ?hr ?_; (case hd => rfl); (case hg => rfl); (case hr => first | (go_simp; done) | (go_simp; rfl)); intro gb221 hg w18 hbox hb; have n0_ := am_ (Kd.R_below (ru HO_5.out) hb); have n1_ := am_ (blk_below (bu BK219.out) hb); have n2_ := am_ (below_step z45_4 hb); have n3_ := am_ (hbox); have n4_ := am_ (by rw [hg]; exact (below_size z45_4) : w.heap.size ≤ gb221); have n5_ := am_ (by rw [hg]; exact (below_size z45_4) : w.heap.size ≤ gb221); have n6_ := am_ (by rw [hg]; exact Nat.ne_of_lt (blk_lt (bu BK219.out)) : gb219 ≠ gb221); have n7_ := am_ (by rw [hg]; exact Nat.ne_of_gt (blk_lt (bu BK219.out)) : gb221 ≠ gb219); clear HO_5 BK219 HB; have HO_5 := n0_; have BK219 := n1_; have HB := n2_; have BK221 := n3_; have GW221 := n4_; have GE221 := n5_; have NB219_221 := n6_; have NB221_219 := n7_; clear n0_ n1_ n2_ n3_ n4_ n5_ n6_ n7_; clear hb hbox hg; have hnb19 := NB221_219.out; have hnc19 := NB219_221.out; have hcz20_0 := cf0 BK221.out; have hcz20_1 := cf1 BK221.out; have hcz20_2 := cf2 BK221.out; have hfz20_0 := blk_frozen BK221.out 0; have hfz20_1 := blk_frozen BK221.out 1; have hfz20_2 := blk_frozen BK221.out 2) | ((with_reducible refine gate_callee (f := 32) rfl ?_); refine goesL_ (some 17) rfl rfl Try.func32 (by kernel_rfl) rfl #[.agg #[.int .i64 ((rd_T70 l0_2 x11_1).f0), .int .i64 ((rd_T70 l0_2 x11_1).f1), .int .i64 ((rd_T70 l0_2 x11_1).f2)]] rfl (by (try simp only [List.map_toArray, List.map_cons, List.map_nil]); first | done | rfl | (simp only [List.length_drop, List.length_take]; rfl)) ?_; (with_reducible refine (impl_Do_writes.calls ((rd_T70 l0_2 x11_1).f0) ((rd_T70 l0_2 x11_1).f1) ((rd_T70 l0_2 x11_1).f2) true _ A8.out).mono ?_); rintro e w21 ⟨rfl, hb⟩; refine ⟨_, rfl, ?_⟩; replace HO_5 := am_ (Kd.R_below (ru (Kd.R_mono (Kd.R_far (p := ⟨gb221, 2, none⟩) (Kd.R_far (p := ⟨gb221, 1, none⟩) (Kd.R_far (p := ⟨gb221, 0, none⟩) (Kd.R_types HO_5.out BK221.out (by decide)) (fun _ hk => hk.2) (.int .i64 ((rd_T70 l0_2 x11_1).f0))) (fun _ hk => hk.2) (.int .i64 ((rd_T70 l0_2 x11_1).f1))) (fun _ hk => hk.2) (.int .i64 ((rd_T70 l0_2 x11_1).f2))) (fun _ h_ => h_.1))) hb); replace BK219 := am_ (blk_below (g := gb219) (o := .cells #[.slice A0_0 l0_0.length c0_0, .slice A0_1 l0_1.length c0_1, .slice (some ad220) l0_2.length c0_2] 60 (0, 0)) z45_6 hb); replace BK221 := am_ (blk_below (g := gb221) (o := .cells #[.int .i64 ((rd_T70 l0_2 x11_1).f0), .int .i64 ((rd_T70 l0_2 x11_1).f1), .int .i64 ((rd_T70 l0_2 x11_1).f2)] 70 (0, 0)) z45_7 hb); replace HB := am_ (below_step z45_5 hb); (try clear hb); (try clear hb2); (try clear hk); (try clear hi); have hcz22_0 := cf0 BK221.out; have hcz22_1 := cf1 BK221.out; have hcz22_2 := cf2 BK221.out; have hfz22_0 := blk_frozen BK221.out 0; have hfz22_1 := blk_frozen BK221.out 1; have hfz22_2 := blk_frozen BK221.out 2))
       go_roundg k1
       case measure => have := HK1.out; omega
       case rel => exact ⟨(x5_1), (wrap64 (x11_1 + 1)), z45_1, H', ⟨by have := HK1.out; omega⟩, ⟨ru HO_5.out⟩, ⟨bu BK219.out⟩, ⟨z45_5⟩⟩
      replace c9 := Bool.eq_false_iff.mpr c9
      subst c9
      have H1 : (impl_scene_writers.l0 k1 a1 x5_1 l0_2 (l0_2.length : Int) (wrap64 (x11_1 + 1))) = some r := by rw [if_neg (show ¬ (false = true) by decide)] at H; exact H
      clear H
      have H := H1
      clear H1
      have H' := am_ H
      clear H
      have p220 : 0 ≤ (x11_1 : Int) := of_decide_eq_true z45_2
      have q220 : x11_1 < (l0_2.length : Int) := of_decide_eq_true z45_2
      obtain ⟨ad220, e220, hx220_0, hx220_1, hx220_2⟩ := at_T70 HR0_2.out x11_1 p220 q220
      cases e220
      replace hx220_0 := (HB.out.cell (World.block_lt_of_cell? w _ hx220_0)).trans hx220_0
      replace hx220_1 := (HB.out.cell (World.block_lt_of_cell? w _ hx220_1)).trans hx220_1
      replace hx220_2 := (HB.out.cell (World.block_lt_of_cell? w _ hx220_2)).trans hx220_2
      replace p220 := eq_true p220
      replace q220 := eq_true q220
      go_wp2_with (first | ((with_reducible refine gate_dst (N := 7) rfl ?_); refine box_event ?hg (N := 7) ?hd (cs := #[.int .i64 0, .int .i64 0, .int .i64 0]) (t := 70) ?hr ?_; (case hd => rfl); (case hg => rfl); (case hr => first | (go_simp; done) | (go_simp; rfl)); intro gb221 hg w23 hbox hb; have n0_ := am_ (Kd.R_below (ru HO_5.out) hb); have n1_ := am_ (blk_below (bu BK219.out) hb); have n2_ := am_ (below_step z45_4 hb); have n3_ := am_ (hbox); have n4_ := am_ (by rw [hg]; exact (below_size z45_4) : w.heap.size ≤ gb221); have n5_ := am_ (by rw [hg]; exact (below_size z45_4) : w.heap.size ≤ gb221); have n6_ := am_ (by rw [hg]; exact Nat.ne_of_lt (blk_lt (bu BK219.out)) : gb219 ≠ gb221); have n7_ := am_ (by rw [hg]; exact Nat.ne_of_gt (blk_lt (bu BK219.out)) : gb221 ≠ gb219); clear HO_5 BK219 HB; have HO_5 := n0_; have BK219 := n1_; have HB := n2_; have BK221 := n3_; have GW221 := n4_; have GE221 := n5_; have NB219_221 := n6_; have NB221_219 := n7_; clear n0_ n1_ n2_ n3_ n4_ n5_ n6_ n7_; clear hb hbox hg; have hnb24 := NB221_219.out; have hnc24 := NB219_221.out; have hcz25_0 := cf0 BK221.out; have hcz25_1 := cf1 BK221.out; have hcz25_2 := cf2 BK221.out; have hfz25_0 := blk_frozen BK221.out 0; have hfz25_1 := blk_frozen BK221.out 1; have hfz25_2 := blk_frozen BK221.out 2) | ((with_reducible refine gate_callee (f := 32) rfl ?_); refine goesL_ (some 17) rfl rfl Try.func32 (by kernel_rfl) rfl #[.agg #[.int .i64 ((rd_T70 l0_2 x11_1).f0), .int .i64 ((rd_T70 l0_2 x11_1).f1), .int .i64 ((rd_T70 l0_2 x11_1).f2)]] rfl (by (try simp only [List.map_toArray, List.map_cons, List.map_nil]); first | done | rfl | (simp only [List.length_drop, List.length_take]; rfl)) ?_; (with_reducible refine (impl_Do_writes.calls ((rd_T70 l0_2 x11_1).f0) ((rd_T70 l0_2 x11_1).f1) ((rd_T70 l0_2 x11_1).f2) false _ A8.out).mono ?_); rintro e w26 ⟨rfl, hb⟩; refine ⟨_, rfl, ?_⟩; replace HO_5 := am_ (Kd.R_below (ru (Kd.R_mono (Kd.R_far (p := ⟨gb221, 2, none⟩) (Kd.R_far (p := ⟨gb221, 1, none⟩) (Kd.R_far (p := ⟨gb221, 0, none⟩) (Kd.R_types HO_5.out BK221.out (by decide)) (fun _ hk => hk.2) (.int .i64 ((rd_T70 l0_2 x11_1).f0))) (fun _ hk => hk.2) (.int .i64 ((rd_T70 l0_2 x11_1).f1))) (fun _ hk => hk.2) (.int .i64 ((rd_T70 l0_2 x11_1).f2))) (fun _ h_ => h_.1))) hb); replace BK219 := am_ (blk_below (g := gb219) (o := .cells #[.slice A0_0 l0_0.length c0_0, .slice A0_1 l0_1.length c0_1, .slice (some ad220) l0_2.length c0_2] 60 (0, 0)) z45_6 hb); replace BK221 := am_ (blk_below (g := gb221) (o := .cells #[.int .i64 ((rd_T70 l0_2 x11_1).f0), .int .i64 ((rd_T70 l0_2 x11_1).f1), .int .i64 ((rd_T70 l0_2 x11_1).f2)] 70 (0, 0)) z45_7 hb); replace HB := am_ (below_step z45_5 hb); (try clear hb); (try clear hb2); (try clear hk); (try clear hi)))
      go_roundg k1
      case measure => have := HK1.out; omega
      case rel => exact ⟨(x5_1), (wrap64 (x11_1 + 1)), z45_1, H', ⟨by have := HK1.out; omega⟩, ⟨ru HO_5.out⟩, ⟨bu BK219.out⟩, ⟨z45_5⟩⟩
     rw [if_neg c7] at H
     exact absurd H (by simp)
    rw [if_neg c6] at H
    exact absurd H (by simp)
   rw [if_neg c5] at H
   have c5b0 : decide (x11_1 < (l0_2.length : Int)) = false := decide_eq_false c5
   clear c5
   obtain rfl := Option.some.inj H
   go_wp2
   go_ret
   exact ⟨_, by first | rfl | (simp [errW_none, errW_some] <;> rfl) | (simp [*, errW_none, errW_some] <;> rfl), ru HO_5.out, z45_4⟩

end Go.Proofs.Ytmkchdlkpbnldaa.PB

namespace Go.Proofs.Ytmkchdlkpbnldaa.PB
open Go.RowKit Go.Proofs.YtmkchdlkpbnldaaW.PrintWords Go.Proofs.YtmkchdlkpbnldaaW.PrintLast Go.Proofs.YtmkchdlkpbnldaaW.PrintMore
attribute [local go_sem] max2_int min2_int max_two min_two max_three min_three max_four min_four   -- for this text's walks alone
open Go.Proofs.YtmkchdlkpbnldaaMine
set_option linter.unusedVariables false
set_option linter.unusedSimpArgs false

/-! ### slices_Clone_int_int_46: function 46 -/
def slices_Clone_int_int_46.f (l0 : List (List Int)) : Option (List (List Int)) := if l0.length < 1048577 then some l0 else none
set_option maxRecDepth 100000 in
set_option maxHeartbeats 800000 in
theorem slices_Clone_int_int_46.calls (P0_ : Nat → Prop) (A0 : Option Addr) (c0 : Nat) (l0 : List (List Int)) (r : List (List Int)) (w : World) (hs0 : Kd.V (Kd.slice 3 (Kd.int .i64)) 24 w w.heap.size (fun k_ => P0_ k_) (.slice A0 l0.length c0) l0) (h : slices_Clone_int_int_46.f l0 = some r) :
  Calls Try.prog 46 #[.slice A0 l0.length c0] w fun e w' => ∃ v0_ : Value, e = .returned (v0_) ∧ Kd.N (Kd.slice 3 (Kd.int .i64)) 24 w' w.heap.size (fun k_ => (P0_ k_ ∨ w.heap.size ≤ k_)) v0_ r ∧ Below w.heap.size w w' := by
 unfold slices_Clone_int_int_46.f at h
 split at h
 ·rename_i hl
  injection h with h; subst h
  have qT : ∀ (w : World) (a : Option Addr) (n c n' c' : Nat), (binOp .eql 38 (.slice a n c) (.slice none n' c')).run Try.prog w = .ok (.bool a.isNone) w := fun w a n c n' c' => Lib.run_eql_slice_nil w _ _ a n c n' c' Try.underlying38
  have HC := (Kd.V_reads' hs0).2.2
  rcases A0 with _ | ad
  ·obtain rfl := nil_of_none HC
   clear HC
   go_enter Try.func46, Try.ntmps46
   go_wp2_with fail
   go_ret
   exact ⟨_, rfl, Kd.N_nil _ _ _ _ _, Below.refl _ _⟩
  have HF := am_ (Kd.V_F (Kd.V_alloc (Kd.V_bound hs0) (Obj.cells #[] 24)))
  clear HC hs0
  go_enter Try.func46, Try.ntmps46
  go_wp2_with (at_builtin; refine park ?_)
  refine ⟨?_⟩
  refine Kd.N_append_rows (Kd.slice 3 (Kd.int .i64)) (w0 := w) w.heap.size (by rfl) (.tmp 5) (.tmp 6) 38 24 (.slice none 0 0) 24 rfl Try.underlying38 info24 rfl (by decide) (by omega) (.slice (some ⟨w.heap.size, 0, none⟩) 0 0) [] l0 (some ad) l0.length c0 (fun k_ => (P0_ k_ ∨ w.heap.size ≤ k_)) _ rfl rfl ?aO HF.out ?aK ?aF ?aB (by simp) ?aL ?_
  case aO => exact Kd.R_N (R_empty _ _ _ _ _ (Nat.le_refl _) (.inr (Nat.le_refl _)))
  case aK => intro k hk; exact ⟨.inl hk.1, fun e => by have := hk.2; simp [Value.ownBlock] at e; omega⟩
  case aF => intro k hk; simp at hk; exact .inr (by omega)
  case aB => exact below_alloc (Below.refl _ _) _
  case aL => simp; omega
  intro v1 w1 ho1 hb1 _ _
  go_wp2_with fail
  go_ret
  exact ⟨_, rfl, by simpa using ho1, hb1⟩
 cases h


end Go.Proofs.Ytmkchdlkpbnldaa.PB

namespace Go.Proofs.Ytmkchdlkpbnldaa.PB
open Go.RowKit Go.Proofs.YtmkchdlkpbnldaaW.PrintWords Go.Proofs.YtmkchdlkpbnldaaW.PrintLast Go.Proofs.YtmkchdlkpbnldaaW.PrintMore
attribute [local go_sem] max2_int min2_int max_two min_two max_three min_three max_four min_four   -- for this text's walks alone
open Go.Proofs.YtmkchdlkpbnldaaMine
set_option linter.unusedVariables false
set_option linter.unusedSimpArgs false

theorem z36_1 {p : Prop} (h : p := by first | rfl | (simp; done) | (simp [*]; done)) : p := h
theorem z36_2 {p : Prop} (h : p := by first | (with_reducible assumption) | assumption) : p := h
theorem z36_3 {p : Prop} (h : p := by first | exact Kd.N_base ho0 | exact Kd.S_base ho0) : p := h
theorem z36_4 {p : Prop} (h : p := by repeat (first | (with_reducible first | exact HB.out | apply below_alloc | apply pw_below_drewN | apply below_drew1) | exact HB.out)) : p := h
theorem z36_5 {p : Prop} (h : p := by repeat (first | (with_reducible first | exact HB.out | apply below_alloc | apply pw_below_drewN | apply below_drew1 | refine below_set ?_ GE226.out) | exact HB.out)) : p := h
theorem z36_6 {p : Prop} (h : p := by repeat (first | (with_reducible exact HR230_0.out) | (with_reducible refine Kd.C_alloc ?_ _) | (with_reducible refine Kd.C_drewN ?_ _) | (with_reducible refine Kd.C_drew ?_) | exact HR230_0.out)) : p := h
/-! ### impl_scene_orders: function 36 -/
mutual
def impl_scene_orders.l0 : Nat → List (List (List Int)) → Int → List (List (S70)) → List (S80) → List (S70) → Option ((List (List (List Int))))
  | 0, _, _, _, _, _ => none
  | k + 1, x3, x11, x00, x01, x02 => if x11 < 3 then (impl_scene_orders.l1 k x11 ([] : List (List (List Int))) x11 x3 (x3.length : Int) 0 x00 x01 x02) else (some x3)
def impl_scene_orders.l1 : Nat → Int → List (List (List Int)) → Int → List (List (List Int)) → Int → Int → List (List (S70)) → List (S80) → List (S70) → Option ((List (List (List Int))))
  | 0, _, _, _, _, _, _, _, _, _ => none
  | k + 1, x4, x5, x11, x14, x15, x16, x00, x01, x02 => if x16 < x15 then (if 0 ≤ x16 then (if x16 < (x14.length : Int) then ((impl_scene_writers.f k x00 x01 x02 x4).bind fun t231 => ((impl_perms.f k t231).bind fun t234 => (impl_scene_orders.l2 k x4 x5 (rd_L11 x14 x16) x11 x14 x15 x16 t234 (t234.length : Int) 0 x00 x01 x02))) else (none)) else (none)) else (impl_scene_orders.l0 k x5 (wrap64 (x11 + 1)) x00 x01 x02)
def impl_scene_orders.l2 : Nat → Int → List (List (List Int)) → List (List Int) → Int → List (List (List Int)) → Int → Int → List (List Int) → Int → Int → List (List (S70)) → List (S80) → List (S70) → Option ((List (List (List Int))))
  | 0, _, _, _, _, _, _, _, _, _, _, _, _, _ => none
  | k + 1, x4, x5, x7, x11, x14, x15, x16, x23, x24, x25, x00, x01, x02 => if x25 < x24 then (if 0 ≤ x25 then (if x25 < (x23.length : Int) then ((slices_Clone_int_int_46.f x7).bind fun t238 => (if t238.length < 5864062014805 then (if x5.length < 5864062014805 then (impl_scene_orders.l2 k x4 (x5 ++ [(t238 ++ [rd_L5 x23 x25])]) x7 x11 x14 x15 x16 x23 x24 (wrap64 (x25 + 1)) x00 x01 x02) else (none)) else (none))) else (none)) else (none)) else (impl_scene_orders.l1 k x4 x5 x11 x14 x15 (wrap64 (x16 + 1)) x00 x01 x02)
end
def impl_scene_orders.f (k : Nat) (l0_0 : List (List (S70))) (l0_1 : List (S80)) (l0_2 : List (S70)) : Option ((List (List (List Int)))) := impl_scene_orders.l0 k (([[]] : List (List (List Int)))) 0 l0_0 l0_1 l0_2
set_option maxHeartbeats 8000000 in
set_option maxRecDepth 100000 in
theorem impl_scene_orders.calls (k : Nat) (A0_0 : Option Addr) (c0_0 : Nat) (l0_0 : List (List (S70))) (A0_1 : Option Addr) (c0_1 : Nat) (l0_1 : List (S80)) (A0_2 : Option Addr) (c0_2 : Nat) (l0_2 : List (S70)) (r : List (List (List Int))) (w : World) (hr0_0 : Kd.C (Kd.slice 70 k70) w A0_0 l0_0.length l0_0) (hc0_0 : l0_0.length ≤ c0_0) (hr0_1 : Kd.C k80 w A0_1 l0_1.length l0_1) (hc0_1 : l0_1.length ≤ c0_1) (hr0_2 : Kd.C k70 w A0_2 l0_2.length l0_2) (hc0_2 : l0_2.length ≤ c0_2) (h : impl_scene_orders.f k l0_0 l0_1 l0_2 = some r) :
  Calls Try.prog 36 #[.agg #[.slice A0_0 l0_0.length c0_0, .slice A0_1 l0_1.length c0_1, .slice A0_2 l0_2.length c0_2]] w fun e w' => ∃ v0_ : Value, e = .returned (v0_) ∧ Kd.N (Kd.slice 24 (Kd.slice 3 (Kd.int .i64))) 38 w' w.heap.size (fun k_ => (w.heap.size ≤ k_)) v0_ r ∧ Below w.heap.size w w' := by
 have hu60 := Try.underlying60
 have HR0_0 := am_ hr0_0
 have HC0_0 := am_ hc0_0
 clear hr0_0 hc0_0
 have HR0_1 := am_ hr0_1
 have HC0_1 := am_ hc0_1
 clear hr0_1 hc0_1
 have HR0_2 := am_ hr0_2
 have HC0_2 := am_ hc0_2
 clear hr0_2 hc0_2
 have HB := am_ (Below.refl w.heap.size w)
 have H : (impl_scene_orders.l0 k (([[]] : List (List (List Int)))) 0 l0_0 l0_1 l0_2) = some r := h
 clear h
 obtain ⟨y227, hy227⟩ : ∃ y_ : List (List (List Int)), y_ = (([[]] : List (List (List Int)))) := ⟨_, rfl⟩
 replace H : (impl_scene_orders.l0 k y227 0 l0_0 l0_1 l0_2) = some r := by first | (rw [hy227]; with_reducible exact H) | (have H2_ := (Option.bind_some _ _).symm.trans H; rw [hy227]; with_reducible exact H2_) | (have H2_ := (Option.bind_some _ _).symm.trans H; with_reducible exact H2_) | with_reducible exact H | (rw [hy227]; exact H) | exact H
 have Ny227 := am_ hy227
 clear hy227
 have H' := am_ H
 clear H
 go_enter Try.func36, Try.ntmps36
 go_wp2_with (first | ((with_reducible refine gate_dst (N := 1) rfl ?_); refine box_event ?hg (N := 1) ?hd (cs := #[.slice A0_0 l0_0.length c0_0, .slice A0_1 l0_1.length c0_1, .slice A0_2 l0_2.length c0_2]) (t := 60) ?hr ?_; (case hd => rfl); (case hg => rfl); (case hr => first | (go_simp; done) | (go_simp; rfl)); intro gb226 hg w2 hbox hb; have n0_ := am_ (below_step z36_4 hb); have n1_ := am_ (hbox); have n2_ := am_ (by rw [hg]; exact (below_size z36_4) : w.heap.size ≤ gb226); have n3_ := am_ (by rw [hg]; exact (below_size z36_4) : w.heap.size ≤ gb226); clear HB; have HB := n0_; have BK226 := n1_; have GW226 := n2_; have GE226 := n3_; clear n0_ n1_ n2_ n3_; clear hb hbox hg) | ((with_reducible refine gate_dst (N := 10) rfl ?_); refine Kd.N_lit (Kd.slice 24 (Kd.slice 3 (Kd.int .i64))) _ 38 ?hg (N' := 10) ?hd (xs := ([[]] : List (List (List Int)))) (inner := [.slice none 0 0]) (ok := (fun k_ => (w.heap.size ≤ k_) ∧ k_ ≠ gb226)) (okp := (fun k_ => (w.heap.size ≤ k_) ∧ k_ ≠ gb226)) ?hr ?hp (fun _ hk => hk) ((show ∀ k_, w2.heap.size ≤ k_ → (fun k_ => (w.heap.size ≤ k_) ∧ k_ ≠ gb226) k_ from fun k_ hk => ⟨(Nat.le_trans (below_size z36_5) hk), Kd.freshB (bu BK226.out) k_ hk⟩) _ (Nat.le_refl _)) (Below.refl _ _) (Nat.le_refl _) (by simp) ?_; (case hd => rfl); (case hg => rfl); (case hr => first | (go_simp; done) | (go_simp; rfl)); (case hp => exact (Reps.one (show Kd.FK (Kd.slice 24 (Kd.slice 3 (Kd.int .i64))) _ _ [] [.slice none 0 0] from (Kd.FK_slice_mk (Nat.le_refl _) (Kd.F_nil _ _ _))) (Reps.none _ _))); intro v228 w3 ho4 hb hg_ hnew_; clear hg_ hnew_; (first | rw [← Ny227.out] at ho4 | (simp only [Int.reduceToNat] at ho4; rw [← Ny227.out] at ho4)); have HO229 := am_ (Kd.N_lower ho4 (below_size z36_5)); replace BK226 := am_ (blk_below (bu BK226.out) hb); replace HB := am_ (below_step z36_5 hb); clear hb ho4))
 go_loopg [3, 11] k (fun kq v3 v11 w' => ∃ (x3_1 : List (List (List Int))) (x11_1 : Int), v11 = .int .i64 x11_1 ∧ Aside0 (impl_scene_orders.l0 kq x3_1 x11_1 l0_0 l0_1 l0_2 = some r) ∧ Aside0 (kq ≤ k) ∧ Aside0 (Kd.N (Kd.slice 24 (Kd.slice 3 (Kd.int .i64))) 38 w' w.heap.size (fun k_ => (w.heap.size ≤ k_) ∧ k_ ≠ gb226) v3 x3_1) ∧ Aside0 (w'.heap[gb226]? = some (.cells #[(.slice A0_0 l0_0.length c0_0), (.slice A0_1 l0_1.length c0_1), (.slice A0_2 l0_2.length c0_2)] 60 (0, 0))) ∧ Aside0 (Below w.heap.size w w'))
 case atStart => exact ⟨(y227), (0), z36_1, H', ⟨Nat.le_refl _⟩, ⟨nu HO229.out⟩, ⟨bu BK226.out⟩, ⟨z36_5⟩⟩
 case round =>
  clear H'
  obtain ⟨x3_1, x11_1, rfl, HA, HK1, HO_3, BK226, HB⟩ := hrel
  cases gk with
  | zero => exact absurd HA.out (by simp [impl_scene_orders.l0])
  | succ k1 =>
   have H := HA.out
   clear HA
   simp only [impl_scene_orders.l0] at H
   by_cases c5 : x11_1 < 3
   ·rw [if_pos c5] at H
    have c5b0 : decide (x11_1 < 3) = true := decide_eq_true c5
    clear c5
    have H' := am_ H
    clear H
    obtain ⟨Ao6, co6, eo6⟩ := Kd.N_slice HO_3.out
    subst eo6
    go_wp2
    go_loopg [5, 16] k1 (fun kq v5 v16 w' => ∃ (x5_2 : List (List (List Int))) (x16_2 : Int), v16 = .int .i64 x16_2 ∧ Aside0 (impl_scene_orders.l1 kq x11_1 x5_2 x11_1 x3_1 (x3_1.length : Int) x16_2 l0_0 l0_1 l0_2 = some r) ∧ Aside0 (kq ≤ k1) ∧ Aside0 (Kd.N (Kd.slice 24 (Kd.slice 3 (Kd.int .i64))) 38 w' w.heap.size (fun k_ => (w.heap.size ≤ k_) ∧ some k_ ≠ ((.slice Ao6 x3_1.length co6) : Value).ownBlock ∧ k_ ≠ gb226) v5 x5_2) ∧ Aside0 (Kd.N (Kd.slice 24 (Kd.slice 3 (Kd.int .i64))) 38 w' w.heap.size (fun k_ => (w.heap.size ≤ k_) ∧ some k_ ≠ (v5 : Value).ownBlock ∧ k_ ≠ gb226) (.slice Ao6 x3_1.length co6) x3_1) ∧ Aside0 (w'.heap[gb226]? = some (.cells #[(.slice A0_0 l0_0.length c0_0), (.slice A0_1 l0_1.length c0_1), (.slice A0_2 l0_2.length c0_2)] 60 (0, 0))) ∧ Aside0 (Below w.heap.size w w'))
    case atStart => exact ⟨(([] : List (List (List Int)))), (0), z36_1, H', ⟨Nat.le_refl _⟩, ⟨by first | exact Kd.R_nil _ _ _ _ _ | exact Kd.N_nil _ _ _ _ _ | exact Kd.V_nil _ _ _ _ _ | exact Kd.Q_nil _ _ _ _ _ | exact Kd.S_nil _ _ _ _ _⟩, ⟨nu (Kd.N_mono HO_3.out (fun _ hk => ⟨hk.1, ⟨(by simp [Value.ownBlock]), hk.2⟩⟩))⟩, ⟨bu BK226.out⟩, ⟨z36_5⟩⟩
    case round =>
     clear H'
     obtain ⟨x5_2, x16_2, rfl, HA, HK2, HO_5, HO_14, BK226, HB⟩ := hrel
     cases gk with
     | zero => exact absurd HA.out (by simp [impl_scene_orders.l1])
     | succ k2 =>
      have H := HA.out
      clear HA
      simp only [impl_scene_orders.l1] at H
      by_cases c7 : x16_2 < (x3_1.length : Int)
      ·rw [if_pos c7] at H
       have c7b0 : decide (x16_2 < (x3_1.length : Int)) = true := decide_eq_true c7
       clear c7
       by_cases c8 : 0 ≤ x16_2
       ·rw [if_pos c8] at H
        have c8b0 : decide (0 ≤ x16_2) = true := decide_eq_true c8
        clear c8
        by_cases c9 : x16_2 < (x3_1.length : Int)
        ·rw [if_pos c9] at H
         have c9b0 : decide (x16_2 < (x3_1.length : Int)) = true := decide_eq_true c9
         clear c9
         replace H := Option.bind_eq_some_iff.mp H
         obtain ⟨t231, A100, H⟩ := H
         replace H : ((impl_perms.f k2 t231).bind fun t234 => (impl_scene_orders.l2 k2 x11_1 x5_2 (rd_L11 x3_1 x16_2) x11_1 x3_1 (x3_1.length : Int) x16_2 t234 (t234.length : Int) 0 l0_0 l0_1 l0_2)) = some r := H
         have A10 := am_ A100
         clear A100
         replace H := Option.bind_eq_some_iff.mp H
         obtain ⟨t234, A110, H⟩ := H
         replace H : (impl_scene_orders.l2 k2 x11_1 x5_2 (rd_L11 x3_1 x16_2) x11_1 x3_1 (x3_1.length : Int) x16_2 t234 (t234.length : Int) 0 l0_0 l0_1 l0_2) = some r := H
         have A11 := am_ A110
         clear A110
         have H' := am_ H
         clear H
         have p230 : 0 ≤ (x16_2 : Int) := of_decide_eq_true z36_2
         have q230 : x16_2 < (x3_1.length : Int) := of_decide_eq_true z36_2
         obtain ⟨ad230, A230_0, c230_0, e230, hx230_0, hl230_0, hi230_0⟩ := at_L11 (Kd.N_reads' HO_14.out).2.2 x16_2 p230 q230
         cases e230
         obtain ⟨ce230, hce230, hMe230, hcc230⟩ := Kd.N_get HO_14.out [] x16_2 p230 (by first | exact q230 | exact of_decide_eq_true z36_2 | (have e_ := (Kd.N_reads' HO_14.out).1; omega))
         obtain ⟨ua230_0, uc230_0, rfl, ul230_0, ge230_0⟩ := Kd.FK_slice_open hMe230
         have hv230_0 := hcc230 0 _ rfl
         rw [Nat.add_zero, show ((Kd.slice 24 (Kd.slice 3 (Kd.int .i64)))).sz = 1 from rfl, Nat.mul_one] at hv230_0
         replace hv230_0 := Option.some.inj (hv230_0.symm.trans hx230_0)
         injection hv230_0 with hva_ hvn_ hvc_
         rw [hva_] at ge230_0
         rw [hvc_] at ul230_0
         have HL230_0 := am_ (show Kd.V (Kd.slice 3 (Kd.int .i64)) 24 _ w.heap.size _ _ (rd_L11 x3_1 x16_2) from Kd.V_mk ul230_0 ge230_0)
         clear hva_ hvn_ hvc_ ge230_0 ul230_0 hcc230 hce230
         have HR230_0 := am_ hi230_0
         have HC230_0 := am_ hl230_0
         clear hi230_0 hl230_0
         replace p230 := eq_true p230
         replace q230 := eq_true q230
         have hcz12_0 := cf0 BK226.out
         have hcz12_1 := cf1 BK226.out
         have hcz12_2 := cf2 BK226.out
         have hfz12_0 := blk_frozen BK226.out 0
         have hfz12_1 := blk_frozen BK226.out 1
         have hfz12_2 := blk_frozen BK226.out 2
         go_wp2_with (first | ((with_reducible refine gate_callee (f := 45) rfl ?_); refine goesL_ (some 22) rfl rfl Try.func45 (by kernel_rfl) rfl #[.agg #[.slice A0_0 l0_0.length c0_0, .slice A0_1 l0_1.length c0_1, .slice A0_2 l0_2.length c0_2], .int .i64 x11_1] rfl (by (try simp only [List.map_toArray, List.map_cons, List.map_nil]); first | done | rfl | (simp only [List.length_drop, List.length_take]; rfl)) ?_; (with_reducible refine (impl_scene_writers.calls k2 _ _ l0_0 _ _ l0_1 _ _ l0_2 x11_1 t231 _ ?side1 ?side2 ?side3 ?side4 ?side5 ?side6 A10.out).mono ?_); (case side1 => repeat (first | exact (Kd.C_below HR0_0.out HB.out) | (with_reducible refine Kd.C_alloc ?_ _) | (with_reducible refine Kd.C_drewN ?_ _) | (with_reducible refine Kd.C_drew ?_))); (case side2 => exact HC0_0.out); (case side3 => repeat (first | exact (Kd.C_below HR0_1.out HB.out) | (with_reducible refine Kd.C_alloc ?_ _) | (with_reducible refine Kd.C_drewN ?_ _) | (with_reducible refine Kd.C_drew ?_))); (case side4 => exact HC0_1.out); (case side5 => repeat (first | exact (Kd.C_below HR0_2.out HB.out) | (with_reducible refine Kd.C_alloc ?_ _) | (with_reducible refine Kd.C_drewN ?_ _) | (with_reducible refine Kd.C_drew ?_))); (case side6 => exact HC0_2.out); rintro e w13 ⟨v232, rfl, ho0, hb⟩; refine ⟨_, rfl, ?_⟩; replace HO_5 := am_ (Kd.N_elder' (nu HO_5.out) (Kd.R_base ho0) hb); replace HO_14 := am_ (Kd.N_elder' (nu HO_14.out) (Kd.R_base ho0) hb); replace HL230_0 := am_ (Kd.V_elder' (vu HL230_0.out) (Kd.R_base ho0) hb); have HO233 := am_ (Kd.R_lower (Kd.R_newM (M := fun k_ => (w.heap.size ≤ k_)) ho0 (below_size z36_5) (fun k_ h_ => h_)) (below_size z36_5)); replace BK226 := am_ (blk_below (bu BK226.out) hb); replace HR230_0 := am_ (Kd.C_below z36_6 hb); replace HB := am_ (below_step z36_5 hb); (try clear hb); (try clear hb2); (try clear hk); (try clear hi); (try clear ho0); obtain ⟨Ao14, co14, eo14⟩ := Kd.R_slice HO233.out; subst eo14) | ((with_reducible refine gate_callee (f := 44) rfl ?_); refine goesL_ (some 23) rfl rfl Try.func44 (by kernel_rfl) rfl #[.slice Ao14 t231.length co14] rfl (by (try simp only [List.map_toArray, List.map_cons, List.map_nil]); first | done | rfl | (simp only [List.length_drop, List.length_take]; rfl)) ?_; (with_reducible refine (impl_perms.calls k2 _ _ t231 t234 _ ?side1 ?side2 A11.out).mono ?_); (case side1 => repeat (first | exact (Kd.R_reads' HO233.out).2.2 | (with_reducible refine Kd.C_alloc ?_ _) | (with_reducible refine Kd.C_drewN ?_ _) | (with_reducible refine Kd.C_drew ?_))); (case side2 => exact (Kd.R_reads' HO233.out).2.1); rintro e w15 ⟨v235, rfl, ho0, hb⟩; refine ⟨_, rfl, ?_⟩; have n0_ := am_ (Kd.N_elder' (nu HO_5.out) z36_3 hb); have n1_ := am_ (Kd.N_elder' (nu HO_14.out) z36_3 hb); have n2_ := am_ (Kd.V_elder' (vu HL230_0.out) z36_3 hb); have n3_ := am_ (Kd.R_below (ru HO233.out) hb); have n4_ := am_ (Kd.N_lower (Kd.N_mono (ok' := fun k_ => (w.heap.size ≤ k_) ∧ some k_ ≠ (u5 : Value).ownBlock ∧ some k_ ≠ (.slice (some ad230) x3_1.length co6 : Value).ownBlock ∧ some k_ ≠ (.slice Ao14 t231.length co14 : Value).ownBlock ∧ k_ ≠ gb226) (Kd.S_N (Kd.S_bound ho0)) (fun k_ hk_ => ⟨(Nat.le_trans (below_size z36_5) hk_.2.1), (Kd.fresh' (Kd.N_lt (nu HO_5.out)) k_ hk_.2.1), (Kd.fresh' (Kd.N_lt (nu HO_14.out)) k_ hk_.2.1), (Kd.fresh' (Kd.R_lt (ru HO233.out)) k_ hk_.2.1), (Kd.freshB (bu BK226.out) k_ hk_.2.1)⟩)) (below_size z36_5)); have n5_ := am_ (blk_below (bu BK226.out) hb); have n6_ := am_ (Kd.C_below z36_6 hb); have n7_ := am_ (below_step z36_5 hb); clear HO_5 HO_14 HL230_0 HO233 BK226 HR230_0 HB; have HO_5 := n0_; have HO_14 := n1_; have HL230_0 := n2_; have HO233 := n3_; have HO236 := n4_; have BK226 := n5_; have HR230_0 := n6_; have HB := n7_; clear n0_ n1_ n2_ n3_ n4_ n5_ n6_ n7_; (try clear hb); (try clear hb2); (try clear hk); (try clear hi); (try clear ho0); obtain ⟨Ao16, co16, eo16⟩ := Kd.N_slice HO236.out; subst eo16))
         go_loopg [5, 25] k2 (fun kq v5 v25 w' => ∃ (x5_3 : List (List (List Int))) (x25_3 : Int), v25 = .int .i64 x25_3 ∧ Aside0 (impl_scene_orders.l2 kq x11_1 x5_3 (rd_L11 x3_1 x16_2) x11_1 x3_1 (x3_1.length : Int) x16_2 t234 (t234.length : Int) x25_3 l0_0 l0_1 l0_2 = some r) ∧ Aside0 (kq ≤ k2) ∧ Aside0 (Kd.N (Kd.slice 24 (Kd.slice 3 (Kd.int .i64))) 38 w' w.heap.size (fun k_ => (w.heap.size ≤ k_) ∧ some k_ ≠ ((.slice (some ad230) x3_1.length co6) : Value).ownBlock ∧ some k_ ≠ ((.slice Ao16 t234.length co16) : Value).ownBlock ∧ k_ ≠ gb226) v5 x5_3) ∧ Aside0 (Kd.N (Kd.slice 24 (Kd.slice 3 (Kd.int .i64))) 38 w' w.heap.size (fun k_ => (w.heap.size ≤ k_) ∧ some k_ ≠ (v5 : Value).ownBlock ∧ some k_ ≠ ((.slice Ao16 t234.length co16) : Value).ownBlock ∧ k_ ≠ gb226) (.slice (some ad230) x3_1.length co6) x3_1) ∧ Aside0 (Kd.N (Kd.slice 3 (Kd.int .i64)) 24 w' w.heap.size (fun k_ => (w.heap.size ≤ k_) ∧ some k_ ≠ (v5 : Value).ownBlock ∧ some k_ ≠ ((.slice (some ad230) x3_1.length co6) : Value).ownBlock ∧ k_ ≠ gb226) (.slice Ao16 t234.length co16) t234) ∧ Aside0 (w'.heap[gb226]? = some (.cells #[(.slice A0_0 l0_0.length c0_0), (.slice A0_1 l0_1.length c0_1), (.slice A0_2 l0_2.length c0_2)] 60 (0, 0))) ∧ Aside0 (Kd.V (Kd.slice 3 (Kd.int .i64)) 24 w' w.heap.size (fun k_ => (w.heap.size ≤ k_) ∧ some k_ ≠ (v5 : Value).ownBlock ∧ some k_ ≠ ((.slice (some ad230) x3_1.length co6) : Value).ownBlock ∧ some k_ ≠ ((.slice Ao16 t234.length co16) : Value).ownBlock ∧ k_ ≠ gb226) (.slice A230_0 (rd_L11 x3_1 x16_2).length c230_0) (rd_L11 x3_1 x16_2)) ∧ Aside0 (Below w.heap.size w w'))
         case atStart => exact ⟨(x5_2), (0), z36_1, H', ⟨Nat.le_refl _⟩, ⟨nu (Kd.N_mono HO_5.out (fun _ hk => ⟨hk.1.1.1, ⟨hk.1.1.2.1, ⟨hk.2, hk.1.1.2.2⟩⟩⟩))⟩, ⟨nu (Kd.N_mono HO_14.out (fun _ hk => ⟨hk.1.1.1, ⟨hk.1.1.2.1, ⟨hk.2, hk.1.1.2.2⟩⟩⟩))⟩, ⟨nu (Kd.N_mono HO236.out (fun _ hk => ⟨hk.1, ⟨hk.2.1, ⟨hk.2.2.1, hk.2.2.2.2⟩⟩⟩))⟩, ⟨bu BK226.out⟩, ⟨vu (Kd.V_mono (vu HL230_0.out) (fun _ hk => ⟨hk.1.1.1.1, hk.1.1.1.2.1, hk.1.1.2, hk.2, hk.1.1.1.2.2⟩))⟩, ⟨z36_5⟩⟩
         case round =>
          clear H'
          obtain ⟨x5_3, x25_3, rfl, HA, HK3, HO_5, HO_14, HO_23, BK226, HVin, HB⟩ := hrel
          cases gk with
          | zero => exact absurd HA.out (by simp [impl_scene_orders.l2])
          | succ k3 =>
           have H := HA.out
           clear HA
           simp only [impl_scene_orders.l2] at H
           by_cases c17 : x25_3 < (t234.length : Int)
           ·rw [if_pos c17] at H
            have c17b0 : decide (x25_3 < (t234.length : Int)) = true := decide_eq_true c17
            clear c17
            by_cases c18 : 0 ≤ x25_3
            ·rw [if_pos c18] at H
             have c18b0 : decide (0 ≤ x25_3) = true := decide_eq_true c18
             clear c18
             by_cases c19 : x25_3 < (t234.length : Int)
             ·rw [if_pos c19] at H
              have c19b0 : decide (x25_3 < (t234.length : Int)) = true := decide_eq_true c19
              clear c19
              replace H := Option.bind_eq_some_iff.mp H
              obtain ⟨t238, A200, H⟩ := H
              replace H : (if t238.length < 5864062014805 then (if x5_3.length < 5864062014805 then (impl_scene_orders.l2 k3 x11_1 (x5_3 ++ [(t238 ++ [rd_L5 t234 x25_3])]) (rd_L11 x3_1 x16_2) x11_1 x3_1 (x3_1.length : Int) x16_2 t234 (t234.length : Int) (wrap64 (x25_3 + 1)) l0_0 l0_1 l0_2) else (none)) else (none)) = some r := H
              have A20 := am_ A200
              clear A200
              by_cases c21 : t238.length < 5864062014805
              ·rw [if_pos c21] at H
               have LMc21 := am_ c21
               clear c21
               obtain ⟨y241, hy241⟩ : ∃ y_ : List (List Int), y_ = (t238 ++ [rd_L5 t234 x25_3]) := ⟨_, rfl⟩
               replace H : (if x5_3.length < 5864062014805 then (impl_scene_orders.l2 k3 x11_1 (x5_3 ++ [y241]) (rd_L11 x3_1 x16_2) x11_1 x3_1 (x3_1.length : Int) x16_2 t234 (t234.length : Int) (wrap64 (x25_3 + 1)) l0_0 l0_1 l0_2) else (none)) = some r := by first | (rw [hy241]; with_reducible exact H) | (have H2_ := (Option.bind_some _ _).symm.trans H; rw [hy241]; with_reducible exact H2_) | (have H2_ := (Option.bind_some _ _).symm.trans H; with_reducible exact H2_) | with_reducible exact H | (rw [hy241]; exact H) | exact H
               have Ny241 := am_ hy241
               clear hy241
               by_cases c22 : x5_3.length < 5864062014805
               ·rw [if_pos c22] at H
                have LMc22 := am_ c22
                clear c22
                obtain ⟨y244, hy244⟩ : ∃ y_ : List (List (List Int)), y_ = (x5_3 ++ [y241]) := ⟨_, rfl⟩
                replace H : (impl_scene_orders.l2 k3 x11_1 y244 (rd_L11 x3_1 x16_2) x11_1 x3_1 (x3_1.length : Int) x16_2 t234 (t234.length : Int) (wrap64 (x25_3 + 1)) l0_0 l0_1 l0_2) = some r := by first | (rw [hy244]; with_reducible exact H) | (have H2_ := (Option.bind_some _ _).symm.trans H; rw [hy244]; with_reducible exact H2_) | (have H2_ := (Option.bind_some _ _).symm.trans H; with_reducible exact H2_) | with_reducible exact H | (rw [hy244]; exact H) | exact H
                have Ny244 := am_ hy244
                clear hy244
                have H' := am_ H
                clear H
                have p237 : 0 ≤ (x25_3 : Int) := of_decide_eq_true z36_2
                have q237 : x25_3 < (t234.length : Int) := of_decide_eq_true z36_2
                obtain ⟨ad237, A237_0, c237_0, e237, hx237_0, hl237_0, hi237_0⟩ := at_L5 (Kd.N_reads' HO_23.out).2.2 x25_3 p237 q237
                cases e237
                obtain ⟨ce237, hce237, hMe237, hcc237⟩ := Kd.N_get HO_23.out [] x25_3 p237 (by first | exact q237 | exact of_decide_eq_true z36_2 | (have e_ := (Kd.N_reads' HO_23.out).1; omega))
                obtain ⟨ua237_0, uc237_0, rfl, ul237_0, ge237_0⟩ := Kd.FK_slice_open hMe237
                have hv237_0 := hcc237 0 _ rfl
                rw [Nat.add_zero, show ((Kd.slice 3 (Kd.int .i64))).sz = 1 from rfl, Nat.mul_one] at hv237_0
                replace hv237_0 := Option.some.inj (hv237_0.symm.trans hx237_0)
                injection hv237_0 with hva_ hvn_ hvc_
                rw [hva_] at ge237_0
                rw [hvc_] at ul237_0
                have HL237_0 := am_ (show Kd.V (Kd.int .i64) 3 _ w.heap.size _ _ (rd_L5 t234 x25_3) from Kd.V_mk ul237_0 ge237_0)
                clear hva_ hvn_ hvc_ ge237_0 ul237_0 hcc237 hce237
                have HR237_0 := am_ hi237_0
                have HC237_0 := am_ hl237_0
                clear hi237_0 hl237_0
                replace p237 := eq_true p237
                replace q237 := eq_true q237
                go_wp2_with (first | ((with_reducible refine gate_callee (f := 46) rfl ?_); refine goesL_ (some 31) rfl rfl Try.func46 (by kernel_rfl) rfl #[.slice A230_0 (rd_L11 x3_1 x16_2).length c230_0] rfl (by (try simp only [List.map_toArray, List.map_cons, List.map_nil]); first | done | rfl | (simp only [List.length_drop, List.length_take]; rfl)) ?_; (refine (slices_Clone_int_int_46.calls _ _ _ (rd_L11 x3_1 x16_2) t238 _ HVin.out A20.out).mono ?_); rintro e w23 ⟨v239, rfl, ho0, hb⟩; refine ⟨_, rfl, ?_⟩; replace HVin := am_ (Kd.V_elder' (vu HVin.out) (Kd.N_base ho0) hb); have n0_ := am_ (Kd.N_elder' (nu HO_5.out) z36_3 hb); have n1_ := am_ (Kd.N_elder' (nu HO_14.out) z36_3 hb); have n2_ := am_ (Kd.N_elder' (nu HO_23.out) z36_3 hb); have n3_ := am_ (Kd.V_elder' (vu HL237_0.out) z36_3 hb); have n4_ := am_ (Kd.N_lower (Kd.N_mono (ok' := fun k_ => (w.heap.size ≤ k_) ∧ some k_ ≠ (u5 : Value).ownBlock ∧ some k_ ≠ (.slice (some ad230) x3_1.length co6 : Value).ownBlock ∧ some k_ ≠ (.slice (some ad237) t234.length co16 : Value).ownBlock ∧ k_ ≠ gb226) ho0 (fun k_ hk_ => hk_.elim (fun h_ => h_) (fun h_ => ⟨(Nat.le_trans (below_size z36_5) h_), (Kd.fresh' (Kd.N_lt (nu HO_5.out)) k_ h_), (Kd.fresh' (Kd.N_lt (nu HO_14.out)) k_ h_), (Kd.fresh' (Kd.N_lt (nu HO_23.out)) k_ h_), (Kd.freshB (bu BK226.out) k_ h_)⟩))) (below_size z36_5)); have n5_ := am_ (blk_below (bu BK226.out) hb); have n6_ := am_ (Kd.C_below (by repeat (first | (with_reducible exact HR237_0.out) | (with_reducible refine Kd.C_alloc ?_ _) | (with_reducible refine Kd.C_drewN ?_ _) | (with_reducible refine Kd.C_drew ?_) | exact HR237_0.out)) hb); have n7_ := am_ (below_step z36_5 hb); clear HO_5 HO_14 HO_23 HL237_0 BK226 HR237_0 HB; have HO_5 := n0_; have HO_14 := n1_; have HO_23 := n2_; have HL237_0 := n3_; have HO240 := n4_; have BK226 := n5_; have HR237_0 := n6_; have HB := n7_; clear n0_ n1_ n2_ n3_ n4_ n5_ n6_ n7_; (try clear hb); (try clear hb2); (try clear hk); (try clear hi); (try clear ho0)) | ((with_reducible refine gate_builtin (b := .append) (xs := #[.tmp 31, .tmp 33]) rfl ?_); at_builtin; refine Kd.N_append (Kd.slice 3 (Kd.int .i64)) (w0 := w) w.heap.size rfl (.tmp 31) (.tmp 33) 38 24 (.slice none 0 0) 24 rfl Try.underlying38 info24 rfl (by decide) (by omega) v239 t238 (rd_L5 t234 x25_3) [.slice A237_0 (rd_L5 t234 x25_3).length c237_0] (fun k_ => (w.heap.size ≤ k_) ∧ some k_ ≠ (u5 : Value).ownBlock ∧ some k_ ≠ (.slice (some ad230) x3_1.length co6 : Value).ownBlock ∧ some k_ ≠ (.slice (some ad237) t234.length co16 : Value).ownBlock ∧ k_ ≠ gb226) (fun k_ => ((fun k_ => (w.heap.size ≤ k_) ∧ some k_ ≠ (u5 : Value).ownBlock ∧ some k_ ≠ (.slice (some ad230) x3_1.length co6 : Value).ownBlock ∧ some k_ ≠ (.slice (some ad237) t234.length co16 : Value).ownBlock ∧ k_ ≠ gb226)) k_ ∧ some k_ ≠ (v239 : Value).ownBlock) rfl rfl ?aP (fun _ hk => hk) ?aF ?aO ?aB ?aS ?aL ?_; (case aP => exact (Kd.FK_slice_mk (Kd.V_reads' (Kd.V_mono (ok' := (fun k_ => ((fun k_ => (w.heap.size ≤ k_) ∧ some k_ ≠ (u5 : Value).ownBlock ∧ some k_ ≠ (.slice (some ad230) x3_1.length co6 : Value).ownBlock ∧ some k_ ≠ (.slice (some ad237) t234.length co16 : Value).ownBlock ∧ k_ ≠ gb226)) k_ ∧ some k_ ≠ (v239 : Value).ownBlock)) (HL237_0.out) (fun k_ hk => ⟨⟨hk.1.1.1, ⟨hk.1.1.2.1, ⟨hk.1.1.2.2.1, ⟨hk.1.2, hk.1.1.2.2.2⟩⟩⟩⟩, hk.2⟩))).2.1 (Kd.V_F (Kd.V_mono (ok' := (fun k_ => ((fun k_ => (w.heap.size ≤ k_) ∧ some k_ ≠ (u5 : Value).ownBlock ∧ some k_ ≠ (.slice (some ad230) x3_1.length co6 : Value).ownBlock ∧ some k_ ≠ (.slice (some ad237) t234.length co16 : Value).ownBlock ∧ k_ ≠ gb226)) k_ ∧ some k_ ≠ (v239 : Value).ownBlock)) (HL237_0.out) (fun k_ hk => ⟨⟨hk.1.1.1, ⟨hk.1.1.2.1, ⟨hk.1.1.2.2.1, ⟨hk.1.2, hk.1.1.2.2.2⟩⟩⟩⟩, hk.2⟩))))); (case aB => exact z36_5); (case aF => exact (fun k_ hk => ⟨(Nat.le_trans (below_size z36_5) hk), Kd.fresh' (Kd.N_lt (nu HO_5.out)) k_ hk, Kd.fresh' (Kd.N_lt (nu HO_14.out)) k_ hk, Kd.fresh' (Kd.N_lt (nu HO_23.out)) k_ hk, Kd.freshB (bu BK226.out) k_ hk⟩)); (case aO => exact (nu HO240.out)); (case aS => exact (below_size z36_5)); (case aL => have := LMc21.out; omega); intro v242 w24 ho hb hg hat; replace HVin := am_ (Kd.V_afterv (ok := (fun k_ => (w.heap.size ≤ k_) ∧ some k_ ≠ (u5 : Value).ownBlock ∧ some k_ ≠ (.slice (some ad230) x3_1.length co6 : Value).ownBlock ∧ some k_ ≠ (.slice (some ad237) t234.length co16 : Value).ownBlock ∧ k_ ≠ gb226)) (vu HVin.out) hg hat); rw [← Ny241.out] at ho; replace HO_5 := am_ (Kd.N_afterv (ok := (fun k_ => (w.heap.size ≤ k_) ∧ some k_ ≠ (.slice (some ad230) x3_1.length co6 : Value).ownBlock ∧ some k_ ≠ (.slice (some ad237) t234.length co16 : Value).ownBlock ∧ k_ ≠ gb226)) (nu HO_5.out) hg hat); replace HO_14 := am_ (Kd.N_afterv (ok := (fun k_ => (w.heap.size ≤ k_) ∧ some k_ ≠ (u5 : Value).ownBlock ∧ some k_ ≠ (.slice (some ad237) t234.length co16 : Value).ownBlock ∧ k_ ≠ gb226)) (nu HO_14.out) hg hat); replace HO_23 := am_ (Kd.N_afterv (ok := (fun k_ => (w.heap.size ≤ k_) ∧ some k_ ≠ (u5 : Value).ownBlock ∧ some k_ ≠ (.slice (some ad230) x3_1.length co6 : Value).ownBlock ∧ k_ ≠ gb226)) (nu HO_23.out) hg hat); replace BK226 := am_ (blk_grown (bu BK226.out) hg (Kd.N_ne HO240.out BK226.out (by decide))); replace HL237_0 := am_ (Kd.V_afterv (ok := (fun k_ => (w.heap.size ≤ k_) ∧ some k_ ≠ (u5 : Value).ownBlock ∧ some k_ ≠ (.slice (some ad230) x3_1.length co6 : Value).ownBlock ∧ some k_ ≠ (.slice (some ad237) t234.length co16 : Value).ownBlock ∧ k_ ≠ gb226)) (vu (Kd.V_mono HL237_0.out (fun _ hk => ⟨⟨hk.1.1.1, ⟨hk.1.1.2.1, ⟨hk.1.1.2.2.1, ⟨hk.1.2, hk.1.1.2.2.2⟩⟩⟩⟩, hk.2⟩))) hg hat); replace HB := am_ (hb); have HO243 := am_ (ho); clear HO240; clear ho hb hg hat; obtain ⟨Ao26, co26, eo26⟩ := Kd.N_slice HO243.out; subst eo26) | ((with_reducible refine gate_builtin (b := .append) (xs := #[.tmp 29, .tmp 35]) rfl ?_); at_builtin; refine Kd.N_append (Kd.slice 24 (Kd.slice 3 (Kd.int .i64))) (w0 := w) w.heap.size rfl (.tmp 29) (.tmp 35) 81 38 (.slice none 0 0) 24 rfl Try.underlying81 info38 rfl (by decide) (by omega) u5 x5_3 y241 [.slice Ao26 y241.length co26] (fun k_ => (w.heap.size ≤ k_) ∧ some k_ ≠ (.slice (some ad230) x3_1.length co6 : Value).ownBlock ∧ some k_ ≠ (.slice (some ad237) t234.length co16 : Value).ownBlock ∧ k_ ≠ gb226) (fun k_ => ((fun k_ => (w.heap.size ≤ k_) ∧ some k_ ≠ (.slice (some ad230) x3_1.length co6 : Value).ownBlock ∧ some k_ ≠ (.slice (some ad237) t234.length co16 : Value).ownBlock ∧ k_ ≠ gb226)) k_ ∧ some k_ ≠ (u5 : Value).ownBlock) rfl rfl ?aP (fun _ hk => hk) ?aF ?aO ?aB ?aS ?aL ?_; (case aP => exact (Kd.FK_slice_mk (Kd.N_reads' (Kd.N_mono (ok' := (fun k_ => ((fun k_ => (w.heap.size ≤ k_) ∧ some k_ ≠ (.slice (some ad230) x3_1.length co6 : Value).ownBlock ∧ some k_ ≠ (.slice (some ad237) t234.length co16 : Value).ownBlock ∧ k_ ≠ gb226)) k_ ∧ some k_ ≠ (u5 : Value).ownBlock)) (HO243.out) (fun k_ hk => ⟨⟨hk.1, ⟨hk.2.2.1, ⟨hk.2.2.2.1, hk.2.2.2.2⟩⟩⟩, hk.2.1⟩))).2.1 (Kd.N_F (Kd.N_mono (ok' := (fun k_ => ((fun k_ => (w.heap.size ≤ k_) ∧ some k_ ≠ (.slice (some ad230) x3_1.length co6 : Value).ownBlock ∧ some k_ ≠ (.slice (some ad237) t234.length co16 : Value).ownBlock ∧ k_ ≠ gb226)) k_ ∧ some k_ ≠ (u5 : Value).ownBlock)) (HO243.out) (fun k_ hk => ⟨⟨hk.1, ⟨hk.2.2.1, ⟨hk.2.2.2.1, hk.2.2.2.2⟩⟩⟩, hk.2.1⟩))))); (case aB => exact z36_5); (case aF => exact (fun k_ hk => ⟨(Nat.le_trans (below_size z36_5) hk), Kd.fresh' (Kd.N_lt (nu HO_14.out)) k_ hk, Kd.fresh' (Kd.N_lt (nu HO_23.out)) k_ hk, Kd.freshB (bu BK226.out) k_ hk⟩)); (case aO => exact (nu (Kd.N_mono HO_5.out (fun _ hk => ⟨hk.1.1, ⟨hk.1.2.1, ⟨hk.1.2.2.1, hk.1.2.2.2⟩⟩⟩)))); (case aS => exact (below_size z36_5)); (case aL => have := LMc22.out; omega); intro v245 w25 ho hb hg hat; replace HVin := am_ (Kd.V_afterv (ok := (fun k_ => (w.heap.size ≤ k_) ∧ some k_ ≠ (.slice (some ad230) x3_1.length co6 : Value).ownBlock ∧ some k_ ≠ (.slice (some ad237) t234.length co16 : Value).ownBlock ∧ k_ ≠ gb226)) (vu (Kd.V_mono HVin.out (fun _ hk => ⟨⟨hk.1.1, hk.1.2.2.1, hk.1.2.2.2.1, hk.1.2.2.2.2⟩, hk.1.2.1⟩))) hg hat); rw [← Ny244.out] at ho; replace HO_14 := am_ (Kd.N_afterv (ok := (fun k_ => (w.heap.size ≤ k_) ∧ some k_ ≠ (.slice (some ad237) t234.length co16 : Value).ownBlock ∧ some k_ ≠ (.slice Ao26 y241.length co26 : Value).ownBlock ∧ k_ ≠ gb226)) (nu (Kd.N_mono HO_14.out (fun _ hk => ⟨⟨hk.1.1, ⟨hk.1.2.2.1, ⟨hk.2, hk.1.2.2.2⟩⟩⟩, hk.1.2.1⟩))) hg hat); replace HO_23 := am_ (Kd.N_afterv (ok := (fun k_ => (w.heap.size ≤ k_) ∧ some k_ ≠ (.slice (some ad230) x3_1.length co6 : Value).ownBlock ∧ some k_ ≠ (.slice Ao26 y241.length co26 : Value).ownBlock ∧ k_ ≠ gb226)) (nu (Kd.N_mono HO_23.out (fun _ hk => ⟨⟨hk.1.1, ⟨hk.1.2.2.1, ⟨hk.2, hk.1.2.2.2⟩⟩⟩, hk.1.2.1⟩))) hg hat); replace BK226 := am_ (blk_grown (bu BK226.out) hg (Kd.N_ne HO_5.out BK226.out (by decide))); replace HL237_0 := am_ (Kd.V_afterv (ok := (fun k_ => (w.heap.size ≤ k_) ∧ some k_ ≠ (.slice (some ad230) x3_1.length co6 : Value).ownBlock ∧ some k_ ≠ (.slice (some ad237) t234.length co16 : Value).ownBlock ∧ some k_ ≠ (.slice Ao26 y241.length co26 : Value).ownBlock ∧ k_ ≠ gb226)) (vu (Kd.V_mono HL237_0.out (fun _ hk => ⟨⟨hk.1.1, ⟨hk.1.2.2.1, ⟨hk.1.2.2.2.1, ⟨hk.2, hk.1.2.2.2.2⟩⟩⟩⟩, hk.1.2.1⟩))) hg hat); replace HB := am_ (hb); have HO246 := am_ (ho); clear HO_5 HO243; clear ho hb hg hat))
                go_roundg k3
                case measure => have := HK1.out; have := HK2.out; have := HK3.out; omega
                case rel => exact ⟨(y244), (wrap64 (x25_3 + 1)), z36_1, H', ⟨by have := HK1.out; have := HK2.out; have := HK3.out; omega⟩, ⟨nu HO246.out⟩, ⟨nu (Kd.N_mono HO_14.out (fun _ hk => ⟨hk.1.1, ⟨hk.2, ⟨hk.1.2.1, hk.1.2.2.2⟩⟩⟩))⟩, ⟨nu (Kd.N_mono HO_23.out (fun _ hk => ⟨hk.1.1, ⟨hk.2, ⟨hk.1.2.1, hk.1.2.2.2⟩⟩⟩))⟩, ⟨bu BK226.out⟩, ⟨vu (Kd.V_mono HVin.out (fun _ hk => ⟨hk.1.1, hk.2, hk.1.2.1, hk.1.2.2.1, hk.1.2.2.2⟩))⟩, ⟨z36_5⟩⟩
               rw [if_neg c22] at H
               exact absurd H (by simp)
              rw [if_neg c21] at H
              exact absurd H (by simp)
             rw [if_neg c19] at H
             exact absurd H (by simp)
            rw [if_neg c18] at H
            exact absurd H (by simp)
           rw [if_neg c17] at H
           have c17b0 : decide (x25_3 < (t234.length : Int)) = false := decide_eq_false c17
           clear c17
           have H' := am_ H
           clear H
           go_wp2
           go_roundg k3
           case measure => have := HK1.out; have := HK2.out; have := HK3.out; omega
           case rel => exact ⟨(x5_3), (wrap64 (x16_2 + 1)), z36_1, H', ⟨by have := HK1.out; have := HK2.out; have := HK3.out; omega⟩, ⟨nu (Kd.N_mono HO_5.out (fun _ hk => ⟨hk.1, ⟨hk.2.1, hk.2.2.2⟩⟩))⟩, ⟨nu (Kd.N_mono HO_14.out (fun _ hk => ⟨hk.1, ⟨hk.2.1, hk.2.2.2⟩⟩))⟩, ⟨bu BK226.out⟩, ⟨z36_5⟩⟩
        rw [if_neg c9] at H
        exact absurd H (by simp)
       rw [if_neg c8] at H
       exact absurd H (by simp)
      rw [if_neg c7] at H
      have c7b0 : decide (x16_2 < (x3_1.length : Int)) = false := decide_eq_false c7
      clear c7
      have H' := am_ H
      clear H
      go_wp2
      go_roundg k2
      case measure => have := HK1.out; have := HK2.out; omega
      case rel => exact ⟨(x5_2), (wrap64 (x11_1 + 1)), z36_1, H', ⟨by have := HK1.out; have := HK2.out; omega⟩, ⟨nu (Kd.N_mono HO_5.out (fun _ hk => ⟨hk.1, hk.2.2⟩))⟩, ⟨bu BK226.out⟩, ⟨z36_5⟩⟩
   rw [if_neg c5] at H
   have c5b0 : decide (x11_1 < 3) = false := decide_eq_false c5
   clear c5
   obtain rfl := Option.some.inj H
   go_wp2
   go_ret
   exact ⟨_, by first | rfl | (simp [errW_none, errW_some] <;> rfl) | (simp [*, errW_none, errW_some] <;> rfl), nu (Kd.N_mono HO_3.out (fun _ hk => hk.1)), z36_5⟩

end Go.Proofs.Ytmkchdlkpbnldaa.PB

namespace Go.Proofs.Ytmkchdlkpbnldaa.PB
open Go.RowKit Go.Proofs.YtmkchdlkpbnldaaW.PrintWords Go.Proofs.YtmkchdlkpbnldaaW.PrintLast Go.Proofs.YtmkchdlkpbnldaaW.PrintMore
attribute [local go_sem] max2_int min2_int max_two min_two max_three min_three max_four min_four   -- for this text's walks alone
open Go.Proofs.YtmkchdlkpbnldaaMine
set_option linter.unusedVariables false
set_option linter.unusedSimpArgs false

theorem z37_1 {p : Prop} (h : p := by first | rfl | (simp; done) | (simp [*]; done)) : p := h
theorem z37_2 {p : Prop} (h : p := by first | (with_reducible assumption) | assumption) : p := h
theorem z37_3 {p : Prop} (h : p := by repeat (first | (with_reducible first | exact HB.out | apply below_alloc | apply pw_below_drewN | apply below_drew1) | exact HB.out)) : p := h
theorem z37_4 {p : Prop} (h : p := by repeat (first | (with_reducible first | exact HB.out | apply below_alloc | apply pw_below_drewN | apply below_drew1 | refine below_set ?_ GE247.out) | exact HB.out)) : p := h
theorem z37_5 {p : Prop} (h : p := by repeat (first | (with_reducible first | exact HB.out | apply below_alloc | apply pw_below_drewN | apply below_drew1 | refine below_set ?_ GE247.out | refine below_set ?_ GE252.out) | exact HB.out)) : p := h
/-! ### impl_scene_froms: function 37 -/
mutual
def impl_scene_froms.l0 : Nat → List (List Int) → List (S70) → Int → Int → List (List (S70)) → List (S80) → List (S70) → Option ((List (List Int)))
  | 0, _, _, _, _, _, _, _ => none
  | k + 1, x3, x14, x15, x16, x00, x01, x02 => if x16 < x15 then (if 0 ≤ x16 then (if x16 < (x14.length : Int) then ((impl_Do_reads.f ((rd_T70 x14 x16).f0) ((rd_T70 x14 x16).f1) ((rd_T70 x14 x16).f2)).bind fun t256 => (if t256 = true then ((some (([(-1)] : List Int) : List Int)).bind fun y257 => ((impl_scene_writers.f k x00 x01 x02 ((rd_T70 x14 x16).f1)).bind fun t260 => (if y257.length + t260.length < 17592186044416 then (impl_scene_froms.j1 k x3 (y257 ++ t260) x14 x15 x16 x00 x01 x02) else (none)))) else (impl_scene_froms.j1 k x3 (([(-2)] : List Int)) x14 x15 x16 x00 x01 x02))) else (none)) else (none)) else (some x3)
def impl_scene_froms.j1 : Nat → List (List Int) → List Int → List (S70) → Int → Int → List (List (S70)) → List (S80) → List (S70) → Option ((List (List Int)))
  | 0, _, _, _, _, _, _, _, _ => none
  | k + 1, x3, x6, x14, x15, x16, x00, x01, x02 => impl_scene_froms.l1 k x6 ([] : List (List Int)) x14 x15 x16 x3 (x3.length : Int) 0 x00 x01 x02
def impl_scene_froms.l1 : Nat → List Int → List (List Int) → List (S70) → Int → Int → List (List Int) → Int → Int → List (List (S70)) → List (S80) → List (S70) → Option ((List (List Int)))
  | 0, _, _, _, _, _, _, _, _, _, _, _ => none
  | k + 1, x6, x7, x14, x15, x16, x29, x30, x31, x00, x01, x02 => if x31 < x30 then (if 0 ≤ x31 then (if x31 < (x29.length : Int) then (impl_scene_froms.l2 k x6 x7 (rd_L5 x29 x31) x14 x15 x16 x29 x30 x31 x6 (x6.length : Int) 0 x00 x01 x02) else (none)) else (none)) else (impl_scene_froms.l0 k x7 x14 x15 (wrap64 (x16 + 1)) x00 x01 x02)
def impl_scene_froms.l2 : Nat → List Int → List (List Int) → List Int → List (S70) → Int → Int → List (List Int) → Int → Int → List Int → Int → Int → List (List (S70)) → List (S80) → List (S70) → Option ((List (List Int)))
  | 0, _, _, _, _, _, _, _, _, _, _, _, _, _, _, _ => none
  | k + 1, x6, x7, x9, x14, x15, x16, x29, x30, x31, x35, x36, x37, x00, x01, x02 => if x37 < x36 then (if 0 ≤ x37 then (if x37 < (x35.length : Int) then ((slices_Clone_int_int_16.f x9).bind fun t268 => (if t268.length < 17592186044416 then (if x7.length < 5864062014805 then (impl_scene_froms.l2 k x6 (x7 ++ [(t268 ++ [rd x35 x37])]) x9 x14 x15 x16 x29 x30 x31 x35 x36 (wrap64 (x37 + 1)) x00 x01 x02) else (none)) else (none))) else (none)) else (none)) else (impl_scene_froms.l1 k x6 x7 x14 x15 x16 x29 x30 (wrap64 (x31 + 1)) x00 x01 x02)
end
def impl_scene_froms.f (k : Nat) (l0_0 : List (List (S70))) (l0_1 : List (S80)) (l0_2 : List (S70)) : Option ((List (List Int))) := impl_scene_froms.l0 k (([[]] : List (List Int))) l0_2 (l0_2.length : Int) 0 l0_0 l0_1 l0_2
set_option maxHeartbeats 8000000 in
set_option maxRecDepth 100000 in
theorem impl_scene_froms.calls (k : Nat) (A0_0 : Option Addr) (c0_0 : Nat) (l0_0 : List (List (S70))) (A0_1 : Option Addr) (c0_1 : Nat) (l0_1 : List (S80)) (A0_2 : Option Addr) (c0_2 : Nat) (l0_2 : List (S70)) (r : List (List Int)) (w : World) (hr0_0 : Kd.C (Kd.slice 70 k70) w A0_0 l0_0.length l0_0) (hc0_0 : l0_0.length ≤ c0_0) (hr0_1 : Kd.C k80 w A0_1 l0_1.length l0_1) (hc0_1 : l0_1.length ≤ c0_1) (hr0_2 : Kd.C k70 w A0_2 l0_2.length l0_2) (hc0_2 : l0_2.length ≤ c0_2) (h : impl_scene_froms.f k l0_0 l0_1 l0_2 = some r) :
  Calls Try.prog 37 #[.agg #[.slice A0_0 l0_0.length c0_0, .slice A0_1 l0_1.length c0_1, .slice A0_2 l0_2.length c0_2]] w fun e w' => ∃ v0_ : Value, e = .returned (v0_) ∧ Kd.S (Kd.slice 3 (Kd.int .i64)) 24 w' w.heap.size (fun _ => True) v0_ r ∧ Below w.heap.size w w' := by
 have hu60 := Try.underlying60
 have hu70 := Try.underlying70
 have HR0_0 := am_ hr0_0
 have HC0_0 := am_ hc0_0
 clear hr0_0 hc0_0
 have HR0_1 := am_ hr0_1
 have HC0_1 := am_ hc0_1
 clear hr0_1 hc0_1
 have HR0_2 := am_ hr0_2
 have HC0_2 := am_ hc0_2
 clear hr0_2 hc0_2
 have HB := am_ (Below.refl w.heap.size w)
 have H : (impl_scene_froms.l0 k (([[]] : List (List Int))) l0_2 (l0_2.length : Int) 0 l0_0 l0_1 l0_2) = some r := h
 clear h
 obtain ⟨y248, hy248⟩ : ∃ y_ : List (List Int), y_ = (([[]] : List (List Int))) := ⟨_, rfl⟩
 replace H : (impl_scene_froms.l0 k y248 l0_2 (l0_2.length : Int) 0 l0_0 l0_1 l0_2) = some r := by first | (rw [hy248]; with_reducible exact H) | (have H2_ := (Option.bind_some _ _).symm.trans H; rw [hy248]; with_reducible exact H2_) | (have H2_ := (Option.bind_some _ _).symm.trans H; with_reducible exact H2_) | with_reducible exact H | (rw [hy248]; exact H) | exact H
 have Ny248 := am_ hy248
 clear hy248
 have H' := am_ H
 clear H
 go_enter Try.func37, Try.ntmps37
 go_wp2_with (first | ((with_reducible refine gate_dst (N := 1) rfl ?_); refine box_event ?hg (N := 1) ?hd (cs := #[.slice A0_0 l0_0.length c0_0, .slice A0_1 l0_1.length c0_1, .slice A0_2 l0_2.length c0_2]) (t := 60) ?hr ?_; (case hd => rfl); (case hg => rfl); (case hr => first | (go_simp; done) | (go_simp; rfl)); intro gb247 hg w2 hbox hb; have n0_ := am_ (below_step z37_3 hb); have n1_ := am_ (hbox); have n2_ := am_ (by rw [hg]; exact (below_size z37_3) : w.heap.size ≤ gb247); have n3_ := am_ (by rw [hg]; exact (below_size z37_3) : w.heap.size ≤ gb247); clear HB; have HB := n0_; have BK247 := n1_; have GW247 := n2_; have GE247 := n3_; clear n0_ n1_ n2_ n3_; clear hb hbox hg) | ((with_reducible refine gate_dst (N := 12) rfl ?_); refine Kd.S_lit (Kd.slice 3 (Kd.int .i64)) _ 24 ?hg (N := 12) ?hd (xs := ([[]] : List (List Int))) (inner := [.slice none 0 0]) (ok := fun _ => True) (okp := fun _ => True) ?hr ?hp (fun _ hk => hk) trivial (Below.refl _ _) (Nat.le_refl _) (by simp) ?_; (case hd => rfl); (case hg => rfl); (case hr => first | (go_simp; done) | (go_simp; rfl)); (case hp => exact (Reps.one (show Kd.M (Kd.slice 3 (Kd.int .i64)) _ _ _ [] [.slice none 0 0] from ⟨_, rfl, Kd.R_nil _ _ _ _ _⟩) (Reps.none _ _))); intro v249 w3 ho4 hb hg_ hnew_; clear hg_ hnew_; (first | rw [← Ny248.out] at ho4 | (simp only [Int.reduceToNat] at ho4; rw [← Ny248.out] at ho4)); have HO250 := am_ (Kd.S_lower ho4 (below_size z37_4)); replace BK247 := am_ (blk_below (bu BK247.out) hb); replace HB := am_ (below_step z37_4 hb); clear hb ho4; have hcz5_0 := cf0 BK247.out; have hcz5_1 := cf1 BK247.out; have hcz5_2 := cf2 BK247.out; have hfz5_0 := blk_frozen BK247.out 0; have hfz5_1 := blk_frozen BK247.out 1; have hfz5_2 := blk_frozen BK247.out 2))
 go_loopg [3, 16] k (fun kq v3 v16 w' => ∃ (x3_1 : List (List Int)) (x16_1 : Int), v16 = .int .i64 x16_1 ∧ Aside0 (impl_scene_froms.l0 kq x3_1 l0_2 (l0_2.length : Int) x16_1 l0_0 l0_1 l0_2 = some r) ∧ Aside0 (kq ≤ k) ∧ Aside0 (Kd.S (Kd.slice 3 (Kd.int .i64)) 24 w' w.heap.size (fun _ => True) v3 x3_1) ∧ Aside0 (w'.heap[gb247]? = some (.cells #[(.slice A0_0 l0_0.length c0_0), (.slice A0_1 l0_1.length c0_1), (.slice A0_2 l0_2.length c0_2)] 60 (0, 0))) ∧ Aside0 (Below w.heap.size w w'))
 case atStart => exact ⟨(y248), (0), z37_1, H', ⟨Nat.le_refl _⟩, ⟨su HO250.out⟩, ⟨bu BK247.out⟩, ⟨z37_4⟩⟩
 case round =>
  clear H'
  obtain ⟨x3_1, x16_1, rfl, HA, HK1, HO_3, BK247, HB⟩ := hrel
  cases gk with
  | zero => exact absurd HA.out (by simp [impl_scene_froms.l0])
  | succ k1 =>
   have H := HA.out
   clear HA
   simp only [impl_scene_froms.l0] at H
   by_cases c6 : x16_1 < (l0_2.length : Int)
   ·rw [if_pos c6] at H
    have c6b0 : decide (x16_1 < (l0_2.length : Int)) = true := decide_eq_true c6
    clear c6
    by_cases c7 : 0 ≤ x16_1
    ·rw [if_pos c7] at H
     have c7b0 : decide (0 ≤ x16_1) = true := decide_eq_true c7
     clear c7
     by_cases c8 : x16_1 < (l0_2.length : Int)
     ·rw [if_pos c8] at H
      have c8b0 : decide (x16_1 < (l0_2.length : Int)) = true := decide_eq_true c8
      clear c8
      obtain ⟨y253, hy253⟩ : ∃ y_ : List Int, y_ = (([(-2)] : List Int)) := ⟨_, rfl⟩
      replace H : ((impl_Do_reads.f ((rd_T70 l0_2 x16_1).f0) ((rd_T70 l0_2 x16_1).f1) ((rd_T70 l0_2 x16_1).f2)).bind fun t256 => (if t256 = true then ((some (([(-1)] : List Int) : List Int)).bind fun y257 => ((impl_scene_writers.f k1 l0_0 l0_1 l0_2 ((rd_T70 l0_2 x16_1).f1)).bind fun t260 => (if y257.length + t260.length < 17592186044416 then (impl_scene_froms.j1 k1 x3_1 (y257 ++ t260) l0_2 (l0_2.length : Int) x16_1 l0_0 l0_1 l0_2) else (none)))) else (impl_scene_froms.j1 k1 x3_1 y253 l0_2 (l0_2.length : Int) x16_1 l0_0 l0_1 l0_2))) = some r := by first | (rw [hy253]; with_reducible exact H) | (have H2_ := (Option.bind_some _ _).symm.trans H; rw [hy253]; with_reducible exact H2_) | (have H2_ := (Option.bind_some _ _).symm.trans H; with_reducible exact H2_) | with_reducible exact H | (rw [hy253]; exact H) | exact H
      have Ny253 := am_ hy253
      clear hy253
      replace H := Option.bind_eq_some_iff.mp H
      obtain ⟨t256, A90, H⟩ := H
      replace H : (if t256 = true then ((some (([(-1)] : List Int) : List Int)).bind fun y257 => ((impl_scene_writers.f k1 l0_0 l0_1 l0_2 ((rd_T70 l0_2 x16_1).f1)).bind fun t260 => (if y257.length + t260.length < 17592186044416 then (impl_scene_froms.j1 k1 x3_1 (y257 ++ t260) l0_2 (l0_2.length : Int) x16_1 l0_0 l0_1 l0_2) else (none)))) else (impl_scene_froms.j1 k1 x3_1 y253 l0_2 (l0_2.length : Int) x16_1 l0_0 l0_1 l0_2)) = some r := H
      have A9 := am_ A90
      clear A90
      have HC10 := am_ H
      clear H
      have p251 : 0 ≤ (x16_1 : Int) := of_decide_eq_true z37_2
      have q251 : x16_1 < (l0_2.length : Int) := of_decide_eq_true z37_2
      obtain ⟨ad251, e251, hx251_0, hx251_1, hx251_2⟩ := at_T70 HR0_2.out x16_1 p251 q251
      cases e251
      replace hx251_0 := (HB.out.cell (World.block_lt_of_cell? w _ hx251_0)).trans hx251_0
      replace hx251_1 := (HB.out.cell (World.block_lt_of_cell? w _ hx251_1)).trans hx251_1
      replace hx251_2 := (HB.out.cell (World.block_lt_of_cell? w _ hx251_2)).trans hx251_2
      replace p251 := eq_true p251
      replace q251 := eq_true q251
      go_upto_if 22 with (first | ((with_reducible refine gate_dst (N := 5) rfl ?_); refine box_event ?hg (N := 5) ?hd (cs := #[.int .i64 0, .int .i64 0, .int .i64 0]) (t := 70) ?hr ?_; (case hd => rfl); (case hg => rfl); (case hr => first | (go_simp; done) | (go_simp; rfl)); intro gb252 hg w11 hbox hb; have n0_ := am_ (Kd.S_below (su HO_3.out) hb); have n1_ := am_ (blk_below (bu BK247.out) hb); have n2_ := am_ (below_step z37_4 hb); have n3_ := am_ (hbox); have n4_ := am_ (by rw [hg]; exact (below_size z37_4) : w.heap.size ≤ gb252); have n5_ := am_ (by rw [hg]; exact (below_size z37_4) : w.heap.size ≤ gb252); have n6_ := am_ (by rw [hg]; exact Nat.ne_of_lt (blk_lt (bu BK247.out)) : gb247 ≠ gb252); have n7_ := am_ (by rw [hg]; exact Nat.ne_of_gt (blk_lt (bu BK247.out)) : gb252 ≠ gb247); clear HO_3 BK247 HB; have HO_3 := n0_; have BK247 := n1_; have HB := n2_; have BK252 := n3_; have GW252 := n4_; have GE252 := n5_; have NB247_252 := n6_; have NB252_247 := n7_; clear n0_ n1_ n2_ n3_ n4_ n5_ n6_ n7_; clear hb hbox hg; have hnb12 := NB252_247.out; have hnc12 := NB247_252.out; have hcz13_0 := cf0 BK252.out; have hcz13_1 := cf1 BK252.out; have hcz13_2 := cf2 BK252.out; have hfz13_0 := blk_frozen BK252.out 0; have hfz13_1 := blk_frozen BK252.out 1; have hfz13_2 := blk_frozen BK252.out 2) | ((with_reducible refine gate_dst (N := 20) rfl ?_); refine Kd.R_lit (Kd.int .i64) _ 3 ?hg (N := 20) ?hd (xs := ([(-2)] : List Int)) (inner := [.int .i64 (-2)]) (ok := fun _ => True) (okp := fun _ => True) ?hr ?hp (fun _ hk => hk) trivial (Below.refl _ _) (Nat.le_refl _) (by simp) ?_; (case hd => rfl); (case hg => rfl); (case hr => first | (go_simp; done) | (go_simp; rfl)); (case hp => exact (Reps.one (show Kd.M (Kd.int .i64) _ _ _ (-2) [.int .i64 (-2)] from rfl) (Reps.none _ _))); intro v254 w14 ho15 hb hg_ hnew_; clear hg_ hnew_; (first | rw [← Ny253.out] at ho15 | (simp only [Int.reduceToNat] at ho15; rw [← Ny253.out] at ho15)); replace HO_3 := am_ (Kd.S_elder' (su (Kd.S_mono (Kd.S_far (p := ⟨gb252, 2, none⟩) (Kd.S_far (p := ⟨gb252, 1, none⟩) (Kd.S_far (p := ⟨gb252, 0, none⟩) (Kd.S_types HO_3.out BK252.out (by decide)) (fun _ hk => hk.2) (.int .i64 ((rd_T70 l0_2 x16_1).f0))) (fun _ hk => hk.2) (.int .i64 ((rd_T70 l0_2 x16_1).f1))) (fun _ hk => hk.2) (.int .i64 ((rd_T70 l0_2 x16_1).f2))) (fun _ h_ => h_.1))) (Kd.R_base ho15) hb); have HO255 := am_ (Kd.R_lower ho15 (below_size z37_5)); replace BK247 := am_ (blk_below (g := gb247) (o := .cells #[.slice A0_0 l0_0.length c0_0, .slice A0_1 l0_1.length c0_1, .slice (some ad251) l0_2.length c0_2] 60 (0, 0)) (by (with_reducible repeat (first | refine blk_drewN ?_ _ | refine blk_drew ?_ | refine blk_alloc ?_ _)); refine blk_far ?_ NB247_252.out _; (with_reducible repeat (first | refine blk_drewN ?_ _ | refine blk_drew ?_ | refine blk_alloc ?_ _)); refine blk_far ?_ NB247_252.out _; (with_reducible repeat (first | refine blk_drewN ?_ _ | refine blk_drew ?_ | refine blk_alloc ?_ _)); refine blk_far ?_ NB247_252.out _; (with_reducible repeat (first | refine blk_drewN ?_ _ | refine blk_drew ?_ | refine blk_alloc ?_ _)); exact BK247.out) hb); replace BK252 := am_ (blk_below (g := gb252) (o := .cells #[.int .i64 ((rd_T70 l0_2 x16_1).f0), .int .i64 ((rd_T70 l0_2 x16_1).f1), .int .i64 ((rd_T70 l0_2 x16_1).f2)] 70 (0, 0)) (by (with_reducible repeat (first | refine blk_drewN ?_ _ | refine blk_drew ?_ | refine blk_alloc ?_ _)); refine blk_put (cs := #[.int .i64 ((rd_T70 l0_2 x16_1).f0), .int .i64 ((rd_T70 l0_2 x16_1).f1), .int .i64 0]) ?_ 2 _ rfl; (with_reducible repeat (first | refine blk_drewN ?_ _ | refine blk_drew ?_ | refine blk_alloc ?_ _)); refine blk_put (cs := #[.int .i64 ((rd_T70 l0_2 x16_1).f0), .int .i64 0, .int .i64 0]) ?_ 1 _ rfl; (with_reducible repeat (first | refine blk_drewN ?_ _ | refine blk_drew ?_ | refine blk_alloc ?_ _)); refine blk_put (cs := #[.int .i64 0, .int .i64 0, .int .i64 0]) ?_ 0 _ rfl; (with_reducible repeat (first | refine blk_drewN ?_ _ | refine blk_drew ?_ | refine blk_alloc ?_ _)); exact BK252.out) hb); replace HB := am_ (below_step z37_5 hb); clear hb ho15; have hcz16_0 := cf0 BK252.out; have hcz16_1 := cf1 BK252.out; have hcz16_2 := cf2 BK252.out; have hfz16_0 := blk_frozen BK252.out 0; have hfz16_1 := blk_frozen BK252.out 1; have hfz16_2 := blk_frozen BK252.out 2) | ((with_reducible refine gate_callee (f := 31) rfl ?_); refine goesL_ (some 22) rfl rfl Try.func31 (by kernel_rfl) rfl #[.agg #[.int .i64 ((rd_T70 l0_2 x16_1).f0), .int .i64 ((rd_T70 l0_2 x16_1).f1), .int .i64 ((rd_T70 l0_2 x16_1).f2)]] rfl (by (try simp only [List.map_toArray, List.map_cons, List.map_nil]); first | done | rfl | (simp only [List.length_drop, List.length_take]; rfl)) ?_; (with_reducible refine (impl_Do_reads.calls ((rd_T70 l0_2 x16_1).f0) ((rd_T70 l0_2 x16_1).f1) ((rd_T70 l0_2 x16_1).f2) t256 _ A9.out).mono ?_); rintro e w17 ⟨rfl, hb⟩; refine ⟨_, rfl, ?_⟩; replace HO_3 := am_ (Kd.S_below (su HO_3.out) hb); replace HO255 := am_ (Kd.R_below (ru HO255.out) hb); replace BK247 := am_ (blk_below (bu BK247.out) hb); replace BK252 := am_ (blk_below (bu BK252.out) hb); replace HB := am_ (below_step z37_5 hb); (try clear hb); (try clear hb2); (try clear hk); (try clear hi)))
      (try simp only [Act.put, List.setIfInBounds_toArray, List.set_cons_zero, List.set_cons_succ])
      go_cut [6] (fun v6 wc => ∃ (kq : Nat) (x6_9 : List Int), Aside0 (impl_scene_froms.j1 kq x3_1 x6_9 l0_2 (l0_2.length : Int) x16_1 l0_0 l0_1 l0_2 = some r) ∧ Aside0 (kq ≤ k1) ∧ Aside0 (Kd.S (Kd.slice 3 (Kd.int .i64)) 24 wc w.heap.size (fun k_ => some k_ ≠ (v6 : Value).ownBlock) u3 x3_1) ∧ Aside0 (Kd.R (Kd.int .i64) 3 wc w.heap.size (fun _ => True) v6 x6_9) ∧ Aside0 (wc.heap[gb247]? = some (.cells #[(.slice A0_0 l0_0.length c0_0), (.slice A0_1 l0_1.length c0_1), (.slice (some ad251) l0_2.length c0_2)] 60 (0, 0))) ∧ Aside0 (wc.heap[gb252]? = some (.cells #[.int .i64 ((rd_T70 l0_2 x16_1).f0), .int .i64 ((rd_T70 l0_2 x16_1).f1), .int .i64 ((rd_T70 l0_2 x16_1).f2)] 70 (0, 0))) ∧ Aside0 (Below w.heap.size w wc))
      case first =>
       have H := HC10.out
       clear HC10
       by_cases c18 : t256 = true
       ·subst c18
        have H1 : ((some (([(-1)] : List Int) : List Int)).bind fun y257 => ((impl_scene_writers.f k1 l0_0 l0_1 l0_2 ((rd_T70 l0_2 x16_1).f1)).bind fun t260 => (if y257.length + t260.length < 17592186044416 then (impl_scene_froms.j1 k1 x3_1 (y257 ++ t260) l0_2 (l0_2.length : Int) x16_1 l0_0 l0_1 l0_2) else (none)))) = some r := by rw [if_pos rfl] at H; exact H
        clear H
        have H := H1
        clear H1
        obtain ⟨y257, hy257⟩ : ∃ y_ : List Int, y_ = (([(-1)] : List Int)) := ⟨_, rfl⟩
        replace H : ((impl_scene_writers.f k1 l0_0 l0_1 l0_2 ((rd_T70 l0_2 x16_1).f1)).bind fun t260 => (if y257.length + t260.length < 17592186044416 then (impl_scene_froms.j1 k1 x3_1 (y257 ++ t260) l0_2 (l0_2.length : Int) x16_1 l0_0 l0_1 l0_2) else (none))) = some r := by first | (rw [hy257]; with_reducible exact H) | (have H2_ := (Option.bind_some _ _).symm.trans H; rw [hy257]; with_reducible exact H2_) | (have H2_ := (Option.bind_some _ _).symm.trans H; with_reducible exact H2_) | with_reducible exact H | (rw [hy257]; exact H) | exact H
        have Ny257 := am_ hy257
        clear hy257
        replace H := Option.bind_eq_some_iff.mp H
        obtain ⟨t260, A190, H⟩ := H
        replace H : (if y257.length + t260.length < 17592186044416 then (impl_scene_froms.j1 k1 x3_1 (y257 ++ t260) l0_2 (l0_2.length : Int) x16_1 l0_0 l0_1 l0_2) else (none)) = some r := H
        have A19 := am_ A190
        clear A190
        by_cases c20 : y257.length + t260.length < 17592186044416
        ·rw [if_pos c20] at H
         have LMc20 := am_ c20
         clear c20
         obtain ⟨y263, hy263⟩ : ∃ y_ : List Int, y_ = (y257 ++ t260) := ⟨_, rfl⟩
         replace H : (impl_scene_froms.j1 k1 x3_1 y263 l0_2 (l0_2.length : Int) x16_1 l0_0 l0_1 l0_2) = some r := by first | (rw [hy263]; with_reducible exact H) | (have H2_ := (Option.bind_some _ _).symm.trans H; rw [hy263]; with_reducible exact H2_) | (have H2_ := (Option.bind_some _ _).symm.trans H; with_reducible exact H2_) | with_reducible exact H | (rw [hy263]; exact H) | exact H
         have Ny263 := am_ hy263
         clear hy263
         have H' := am_ H
         clear H
         go_wp2_with (first | ((with_reducible refine gate_dst (N := 23) rfl ?_); refine Kd.R_lit (Kd.int .i64) _ 3 ?hg (N := 23) ?hd (xs := ([(-1)] : List Int)) (inner := [.int .i64 (-1)]) (ok := fun _ => True) (okp := fun _ => True) ?hr ?hp (fun _ hk => hk) trivial (Below.refl _ _) (Nat.le_refl _) (by simp) ?_; (case hd => rfl); (case hg => rfl); (case hr => first | (go_simp; done) | (go_simp; rfl)); (case hp => exact (Reps.one (show Kd.M (Kd.int .i64) _ _ _ (-1) [.int .i64 (-1)] from rfl) (Reps.none _ _))); intro v258 w21 ho22 hb hg_ hnew_; clear hg_ hnew_; (first | rw [← Ny257.out] at ho22 | (simp only [Int.reduceToNat] at ho22; rw [← Ny257.out] at ho22)); have n0_ := am_ (Kd.S_elder' (su HO_3.out) (Kd.R_base ho22) hb); have n1_ := am_ (Kd.R_elder' (ru HO255.out) (Kd.R_base ho22) hb); have n2_ := am_ (Kd.R_lower (Kd.R_new' ho22 (Kd.R_lt (ru HO255.out))) (below_size z37_5)); have n3_ := am_ (blk_below (bu BK247.out) hb); have n4_ := am_ (blk_below (bu BK252.out) hb); have n5_ := am_ (below_step z37_5 hb); clear HO_3 HO255 BK247 BK252 HB; have HO_3 := n0_; have HO255 := n1_; have HO259 := n2_; have BK247 := n3_; have BK252 := n4_; have HB := n5_; clear n0_ n1_ n2_ n3_ n4_ n5_; clear hb ho22; have hnb23 := NB247_252.out; have hnc23 := NB252_247.out; have hcz24_0 := cf0 BK247.out; have hcz24_1 := cf1 BK247.out; have hcz24_2 := cf2 BK247.out; have hfz24_0 := blk_frozen BK247.out 0; have hfz24_1 := blk_frozen BK247.out 1; have hfz24_2 := blk_frozen BK247.out 2; have hcz25_0 := cf0 BK252.out; have hcz25_1 := cf1 BK252.out; have hcz25_2 := cf2 BK252.out; have hfz25_0 := blk_frozen BK252.out 0; have hfz25_1 := blk_frozen BK252.out 1; have hfz25_2 := blk_frozen BK252.out 2) | ((with_reducible refine gate_callee (f := 45) rfl ?_); refine goesL_ (some 27) rfl rfl Try.func45 (by kernel_rfl) rfl #[.agg #[.slice A0_0 l0_0.length c0_0, .slice A0_1 l0_1.length c0_1, .slice (some ad251) l0_2.length c0_2], .int .i64 ((rd_T70 l0_2 x16_1).f1)] rfl (by (try simp only [List.map_toArray, List.map_cons, List.map_nil]); first | done | rfl | (simp only [List.length_drop, List.length_take]; rfl)) ?_; (with_reducible refine (impl_scene_writers.calls k1 _ _ l0_0 _ _ l0_1 _ _ l0_2 ((rd_T70 l0_2 x16_1).f1) t260 _ ?side1 ?side2 ?side3 ?side4 ?side5 ?side6 A19.out).mono ?_); (case side1 => repeat (first | exact (Kd.C_below HR0_0.out HB.out) | (with_reducible refine Kd.C_alloc ?_ _) | (with_reducible refine Kd.C_drewN ?_ _) | (with_reducible refine Kd.C_drew ?_))); (case side2 => exact HC0_0.out); (case side3 => repeat (first | exact (Kd.C_below HR0_1.out HB.out) | (with_reducible refine Kd.C_alloc ?_ _) | (with_reducible refine Kd.C_drewN ?_ _) | (with_reducible refine Kd.C_drew ?_))); (case side4 => exact HC0_1.out); (case side5 => repeat (first | exact (Kd.C_below HR0_2.out HB.out) | (with_reducible refine Kd.C_alloc ?_ _) | (with_reducible refine Kd.C_drewN ?_ _) | (with_reducible refine Kd.C_drew ?_))); (case side6 => exact HC0_2.out); rintro e w26 ⟨v261, rfl, ho0, hb⟩; refine ⟨_, rfl, ?_⟩; have n0_ := am_ (Kd.S_elder' (su HO_3.out) (Kd.R_base ho0) hb); have n1_ := am_ (Kd.R_elder' (ru HO255.out) (Kd.R_base ho0) hb); have n2_ := am_ (Kd.R_elder' (ru HO259.out) (Kd.R_base ho0) hb); have n3_ := am_ (Kd.R_lower (Kd.R_new' (Kd.R_new' ho0 (Kd.R_lt (ru HO255.out))) (Kd.R_lt (ru HO259.out))) (below_size z37_5)); have n4_ := am_ (blk_below (bu BK247.out) hb); have n5_ := am_ (blk_below (bu BK252.out) hb); have n6_ := am_ (below_step z37_5 hb); clear HO_3 HO255 HO259 BK247 BK252 HB; have HO_3 := n0_; have HO255 := n1_; have HO259 := n2_; have HO262 := n3_; have BK247 := n4_; have BK252 := n5_; have HB := n6_; clear n0_ n1_ n2_ n3_ n4_ n5_ n6_; (try clear hb); (try clear hb2); (try clear hk); (try clear hi); (try clear ho0); obtain ⟨Ao28, co28, eo28⟩ := Kd.R_slice HO262.out; subst eo28) | ((with_reducible refine gate_builtin (b := .append) (xs := #[.tmp 23, .tmp 27]) rfl ?_); at_builtin; refine Kd.R_append_rows (Kd.int .i64) (w0 := w) w.heap.size rfl (.tmp 23) (.tmp 27) 24 3 (.int .i64 0) 8 rfl Try.underlying24 info3 rfl (by decide) (by omega) v258 y257 t260 _ _ _ (fun k_ => some k_ ≠ (v254 : Value).ownBlock ∧ some k_ ≠ (.slice Ao28 t260.length co28 : Value).ownBlock) (fun _ => False) rfl rfl ?aO ?aR (fun _ _ h => h) (fun _ h => h.elim) ?aF ?aB ?aS ?aL ?_; (case aR => repeat (first | exact (Kd.R_reads' HO262.out).2.2 | (with_reducible refine Kd.C_alloc ?_ _) | (with_reducible refine Kd.C_drewN ?_ _) | (with_reducible refine Kd.C_drew ?_))); (case aB => exact z37_5); (case aF => exact (fun k_ hk => ⟨Kd.fresh' (Kd.R_lt (ru HO255.out)) k_ hk, Kd.fresh' (Kd.R_lt (ru HO262.out)) k_ hk⟩)); (case aO => exact (ru (Kd.R_mono HO259.out (fun _ hk => ⟨hk.1.2, hk.2⟩)))); (case aS => exact (below_size z37_5)); (case aL => have := LMc20.out; omega); intro v264 w27 ho hb hg hat; rw [← Ny263.out] at ho; replace HO_3 := am_ (Kd.S_after (ok := (fun k_ => some k_ ≠ (v254 : Value).ownBlock ∧ some k_ ≠ (.slice Ao28 t260.length co28 : Value).ownBlock)) (su (Kd.S_mono HO_3.out (fun _ hk => ⟨⟨hk.1.1.2, hk.2⟩, hk.1.2⟩))) hg hat); replace BK247 := am_ (blk_grown (bu BK247.out) hg (Kd.R_ne HO259.out BK247.out (by decide))); replace BK252 := am_ (blk_grown (bu BK252.out) hg (Kd.R_ne HO259.out BK252.out (by decide))); replace HO255 := am_ (Kd.R_after (ok := (fun k_ => some k_ ≠ (.slice Ao28 t260.length co28 : Value).ownBlock)) (ru (Kd.R_mono HO255.out (fun _ hk => ⟨hk.2, hk.1.2⟩))) hg hat); replace HO262 := am_ (Kd.R_after (ok := (fun k_ => some k_ ≠ (v254 : Value).ownBlock)) (ru (Kd.R_mono HO262.out (fun _ hk => ⟨hk.1.2, hk.2⟩))) hg hat); replace HB := am_ (hb); have HO265 := am_ (ho); clear HO259; clear ho hb hg hat))
         go_meet
         case rel => exact ⟨_, (y263), H', ⟨by have := HK1.out; first | omega | exact Nat.le_refl _⟩, ⟨su (Kd.S_mono HO_3.out (fun _ hk => hk.2))⟩, ⟨ru (Kd.R_mono HO265.out (fun _ hk => trivial))⟩, ⟨bu BK247.out⟩, ⟨bu BK252.out⟩, ⟨z37_5⟩⟩
        rw [if_neg c20] at H
        exact absurd H (by simp)
       replace c18 := Bool.eq_false_iff.mpr c18
       subst c18
       have H1 : (impl_scene_froms.j1 k1 x3_1 y253 l0_2 (l0_2.length : Int) x16_1 l0_0 l0_1 l0_2) = some r := by rw [if_neg (show ¬ (false = true) by decide)] at H; exact H
       clear H
       have H := H1
       clear H1
       have H' := am_ H
       clear H
       go_wp2
       go_meet
       case rel => exact ⟨_, (y253), H', ⟨by have := HK1.out; first | omega | exact Nat.le_refl _⟩, ⟨su (Kd.S_mono HO_3.out (fun _ hk => hk.2))⟩, ⟨ru HO255.out⟩, ⟨bu BK247.out⟩, ⟨bu BK252.out⟩, ⟨z37_5⟩⟩
      case rest =>
       clear HC10
       obtain ⟨kq, x6_9, HA, HJ9, HO_3, HO_6, BK247, BK252, HB⟩ := hcut
       cases kq with
       | zero => exact absurd HA.out (by simp [impl_scene_froms.j1])
       | succ kj9 =>
        have H := HA.out
        clear HA
        simp only [impl_scene_froms.j1] at H
        have H' := am_ H
        clear H
        obtain ⟨Ao29, co29, eo29⟩ := Kd.S_slice HO_3.out
        subst eo29
        go_wp2
        go_loopg [7, 31] kj9 (fun kq v7 v31 w' => ∃ (x7_3 : List (List Int)) (x31_3 : Int), v31 = .int .i64 x31_3 ∧ Aside0 (impl_scene_froms.l1 kq x6_9 x7_3 l0_2 (l0_2.length : Int) x16_1 x3_1 (x3_1.length : Int) x31_3 l0_0 l0_1 l0_2 = some r) ∧ Aside0 (kq ≤ kj9) ∧ Aside0 (Kd.R (Kd.int .i64) 3 w' w.heap.size (fun _ => True) u6 x6_9) ∧ Aside0 (Kd.S (Kd.slice 3 (Kd.int .i64)) 24 w' w.heap.size (fun k_ => some k_ ≠ (u6 : Value).ownBlock ∧ some k_ ≠ ((.slice Ao29 x3_1.length co29) : Value).ownBlock) v7 x7_3) ∧ Aside0 (Kd.S (Kd.slice 3 (Kd.int .i64)) 24 w' w.heap.size (fun k_ => some k_ ≠ (u6 : Value).ownBlock ∧ some k_ ≠ (v7 : Value).ownBlock) (.slice Ao29 x3_1.length co29) x3_1) ∧ Aside0 (w'.heap[gb247]? = some (.cells #[(.slice A0_0 l0_0.length c0_0), (.slice A0_1 l0_1.length c0_1), (.slice (some ad251) l0_2.length c0_2)] 60 (0, 0))) ∧ Aside0 (w'.heap[gb252]? = some (.cells #[.int .i64 ((rd_T70 l0_2 x16_1).f0), .int .i64 ((rd_T70 l0_2 x16_1).f1), .int .i64 ((rd_T70 l0_2 x16_1).f2)] 70 (0, 0))) ∧ Aside0 (Below w.heap.size w w'))
        case atStart => exact ⟨(([] : List (List Int))), (0), z37_1, H', ⟨Nat.le_refl _⟩, ⟨ru HO_6.out⟩, ⟨by first | exact Kd.S_nil _ _ _ _ _ | exact Kd.N_nil _ _ _ _ _ | exact Kd.V_nil _ _ _ _ _ | exact Kd.Q_nil _ _ _ _ _ | exact Kd.R_nil _ _ _ _ _⟩, ⟨su (Kd.S_mono HO_3.out (fun _ hk => ⟨hk, (by simp [Value.ownBlock])⟩))⟩, ⟨bu BK247.out⟩, ⟨bu BK252.out⟩, ⟨z37_5⟩⟩
        case round =>
         clear H'
         obtain ⟨x7_3, x31_3, rfl, HA, HK3, HO_6, HO_7, HO_29, BK247, BK252, HB⟩ := hrel
         cases gk with
         | zero => exact absurd HA.out (by simp [impl_scene_froms.l1])
         | succ k3 =>
          have H := HA.out
          clear HA
          simp only [impl_scene_froms.l1] at H
          by_cases c30 : x31_3 < (x3_1.length : Int)
          ·rw [if_pos c30] at H
           have c30b0 : decide (x31_3 < (x3_1.length : Int)) = true := decide_eq_true c30
           clear c30
           by_cases c31 : 0 ≤ x31_3
           ·rw [if_pos c31] at H
            have c31b0 : decide (0 ≤ x31_3) = true := decide_eq_true c31
            clear c31
            by_cases c32 : x31_3 < (x3_1.length : Int)
            ·rw [if_pos c32] at H
             have c32b0 : decide (x31_3 < (x3_1.length : Int)) = true := decide_eq_true c32
             clear c32
             have H' := am_ H
             clear H
             have p266 : 0 ≤ (x31_3 : Int) := of_decide_eq_true z37_2
             have q266 : x31_3 < (x3_1.length : Int) := of_decide_eq_true z37_2
             obtain ⟨ad266, A266_0, c266_0, e266, hx266_0, hl266_0, hi266_0⟩ := at_L5 (Kd.S_reads' HO_29.out).2.2 x31_3 p266 q266
             cases e266
             obtain ⟨ce266, hce266, hMe266, hcc266⟩ := Kd.S_get HO_29.out [] x31_3 p266 (by first | exact q266 | exact of_decide_eq_true z37_2 | (have e_ := (Kd.S_reads' HO_29.out).1; omega))
             obtain ⟨ve266_0, rfl, ge266_0⟩ := hMe266
             have hv266_0 := hcc266 0 _ rfl
             rw [Nat.add_zero, show ((Kd.slice 3 (Kd.int .i64))).sz = 1 from rfl, Nat.mul_one] at hv266_0
             replace hv266_0 := Option.some.inj (hv266_0.symm.trans hx266_0)
             rw [hv266_0] at ge266_0
             have HL266_0 := am_ (show Kd.R (Kd.int .i64) 3 _ _ _ _ (rd_L5 x3_1 x31_3) from ge266_0)
             clear hv266_0 ge266_0 hcc266 hce266
             have HR266_0 := am_ hi266_0
             have HC266_0 := am_ hl266_0
             clear hi266_0 hl266_0
             replace p266 := eq_true p266
             replace q266 := eq_true q266
             obtain ⟨Ao33, co33, eo33⟩ := Kd.R_slice HO_6.out
             subst eo33
             go_wp2
             go_loopg [7, 37] k3 (fun kq v7 v37 w' => ∃ (x7_4 : List (List Int)) (x37_4 : Int), v37 = .int .i64 x37_4 ∧ Aside0 (impl_scene_froms.l2 kq x6_9 x7_4 (rd_L5 x3_1 x31_3) l0_2 (l0_2.length : Int) x16_1 x3_1 (x3_1.length : Int) x31_3 x6_9 (x6_9.length : Int) x37_4 l0_0 l0_1 l0_2 = some r) ∧ Aside0 (kq ≤ k3) ∧ Aside0 (Kd.R (Kd.int .i64) 3 w' w.heap.size (fun _ => True) (.slice Ao33 x6_9.length co33) x6_9) ∧ Aside0 (Kd.S (Kd.slice 3 (Kd.int .i64)) 24 w' w.heap.size (fun k_ => some k_ ≠ ((.slice Ao33 x6_9.length co33) : Value).ownBlock ∧ some k_ ≠ ((.slice (some ad266) x3_1.length co29) : Value).ownBlock ∧ some k_ ≠ ((.slice Ao33 x6_9.length co33) : Value).ownBlock) v7 x7_4) ∧ Aside0 (Kd.S (Kd.slice 3 (Kd.int .i64)) 24 w' w.heap.size (fun k_ => some k_ ≠ ((.slice Ao33 x6_9.length co33) : Value).ownBlock ∧ some k_ ≠ (v7 : Value).ownBlock ∧ some k_ ≠ ((.slice Ao33 x6_9.length co33) : Value).ownBlock) (.slice (some ad266) x3_1.length co29) x3_1) ∧ Aside0 (Kd.R (Kd.int .i64) 3 w' w.heap.size (fun _ => True) (.slice Ao33 x6_9.length co33) x6_9) ∧ Aside0 (w'.heap[gb247]? = some (.cells #[(.slice A0_0 l0_0.length c0_0), (.slice A0_1 l0_1.length c0_1), (.slice (some ad251) l0_2.length c0_2)] 60 (0, 0))) ∧ Aside0 (w'.heap[gb252]? = some (.cells #[.int .i64 ((rd_T70 l0_2 x16_1).f0), .int .i64 ((rd_T70 l0_2 x16_1).f1), .int .i64 ((rd_T70 l0_2 x16_1).f2)] 70 (0, 0))) ∧ Aside0 (Kd.V (Kd.int .i64) 3 w' w.heap.size (fun k_ => some k_ ≠ (v7 : Value).ownBlock) (.slice A266_0 (rd_L5 x3_1 x31_3).length c266_0) (rd_L5 x3_1 x31_3)) ∧ Aside0 (Below w.heap.size w w'))
             case atStart => exact ⟨(x7_3), (0), z37_1, H', ⟨Nat.le_refl _⟩, ⟨ru HO_6.out⟩, ⟨su (Kd.S_mono HO_7.out (fun _ hk => ⟨hk.1, ⟨hk.2, hk.1⟩⟩))⟩, ⟨su (Kd.S_mono HO_29.out (fun _ hk => ⟨hk.1, ⟨hk.2, hk.1⟩⟩))⟩, ⟨ru HO_6.out⟩, ⟨bu BK247.out⟩, ⟨bu BK252.out⟩, ⟨vu (Kd.V_mono (Kd.R_V (ru HL266_0.out)) (fun _ hk => hk.1.2))⟩, ⟨z37_5⟩⟩
             case round =>
              clear H'
              obtain ⟨x7_4, x37_4, rfl, HA, HK4, HO_6, HO_7, HO_29, HO_35, BK247, BK252, HVin, HB⟩ := hrel
              cases gk with
              | zero => exact absurd HA.out (by simp [impl_scene_froms.l2])
              | succ k4 =>
               have H := HA.out
               clear HA
               simp only [impl_scene_froms.l2] at H
               by_cases c34 : x37_4 < (x6_9.length : Int)
               ·rw [if_pos c34] at H
                have c34b0 : decide (x37_4 < (x6_9.length : Int)) = true := decide_eq_true c34
                clear c34
                by_cases c35 : 0 ≤ x37_4
                ·rw [if_pos c35] at H
                 have c35b0 : decide (0 ≤ x37_4) = true := decide_eq_true c35
                 clear c35
                 by_cases c36 : x37_4 < (x6_9.length : Int)
                 ·rw [if_pos c36] at H
                  have c36b0 : decide (x37_4 < (x6_9.length : Int)) = true := decide_eq_true c36
                  clear c36
                  replace H := Option.bind_eq_some_iff.mp H
                  obtain ⟨t268, A370, H⟩ := H
                  replace H : (if t268.length < 17592186044416 then (if x7_4.length < 5864062014805 then (impl_scene_froms.l2 k4 x6_9 (x7_4 ++ [(t268 ++ [rd x6_9 x37_4])]) (rd_L5 x3_1 x31_3) l0_2 (l0_2.length : Int) x16_1 x3_1 (x3_1.length : Int) x31_3 x6_9 (x6_9.length : Int) (wrap64 (x37_4 + 1)) l0_0 l0_1 l0_2) else (none)) else (none)) = some r := H
                  have A37 := am_ A370
                  clear A370
                  by_cases c38 : t268.length < 17592186044416
                  ·rw [if_pos c38] at H
                   have LMc38 := am_ c38
                   clear c38
                   obtain ⟨y271, hy271⟩ : ∃ y_ : List Int, y_ = (t268 ++ [rd x6_9 x37_4]) := ⟨_, rfl⟩
                   replace H : (if x7_4.length < 5864062014805 then (impl_scene_froms.l2 k4 x6_9 (x7_4 ++ [y271]) (rd_L5 x3_1 x31_3) l0_2 (l0_2.length : Int) x16_1 x3_1 (x3_1.length : Int) x31_3 x6_9 (x6_9.length : Int) (wrap64 (x37_4 + 1)) l0_0 l0_1 l0_2) else (none)) = some r := by first | (rw [hy271]; with_reducible exact H) | (have H2_ := (Option.bind_some _ _).symm.trans H; rw [hy271]; with_reducible exact H2_) | (have H2_ := (Option.bind_some _ _).symm.trans H; with_reducible exact H2_) | with_reducible exact H | (rw [hy271]; exact H) | exact H
                   have Ny271 := am_ hy271
                   clear hy271
                   by_cases c39 : x7_4.length < 5864062014805
                   ·rw [if_pos c39] at H
                    have LMc39 := am_ c39
                    clear c39
                    obtain ⟨y274, hy274⟩ : ∃ y_ : List (List Int), y_ = (x7_4 ++ [y271]) := ⟨_, rfl⟩
                    replace H : (impl_scene_froms.l2 k4 x6_9 y274 (rd_L5 x3_1 x31_3) l0_2 (l0_2.length : Int) x16_1 x3_1 (x3_1.length : Int) x31_3 x6_9 (x6_9.length : Int) (wrap64 (x37_4 + 1)) l0_0 l0_1 l0_2) = some r := by first | (rw [hy274]; with_reducible exact H) | (have H2_ := (Option.bind_some _ _).symm.trans H; rw [hy274]; with_reducible exact H2_) | (have H2_ := (Option.bind_some _ _).symm.trans H; with_reducible exact H2_) | with_reducible exact H | (rw [hy274]; exact H) | exact H
                    have Ny274 := am_ hy274
                    clear hy274
                    have H' := am_ H
                    clear H
                    have p267 : 0 ≤ (x37_4 : Int) := of_decide_eq_true z37_2
                    have q267 : x37_4 < (x6_9.length : Int) := of_decide_eq_true z37_2
                    obtain ⟨ad267, e267, hx267_0⟩ := Kd.at_int (Kd.R_reads' HO_35.out).2.2 x37_4 p267 q267
                    cases e267
                    replace p267 := eq_true p267
                    replace q267 := eq_true q267
                    go_wp2_with (first | ((with_reducible refine gate_callee (f := 16) rfl ?_); refine goesL_ (some 43) rfl rfl Try.func16 (by kernel_rfl) rfl #[.slice A266_0 (rd_L5 x3_1 x31_3).length c266_0] rfl (by (try simp only [List.map_toArray, List.map_cons, List.map_nil]); first | done | rfl | (simp only [List.length_drop, List.length_take]; rfl)) ?_; (with_reducible refine (slices_Clone_int_int_16.calls _ _ (rd_L5 x3_1 x31_3) t268 _ (Kd.V_reads' (vu HVin.out)).2.2 (Kd.V_reads' (vu HVin.out)).2.1 A37.out).mono ?_); rintro e w40 ⟨v269, rfl, ho0, hb⟩; refine ⟨_, rfl, ?_⟩; replace HVin := am_ (Kd.V_elder' (vu HVin.out) (Kd.R_base ho0) hb); have n0_ := am_ (Kd.R_elder' (ru HO_6.out) (Kd.R_base ho0) hb); have n1_ := am_ (Kd.S_elder' (su HO_7.out) (Kd.R_base ho0) hb); have n2_ := am_ (Kd.S_elder' (su HO_29.out) (Kd.R_base ho0) hb); have n3_ := am_ (Kd.R_elder' (ru HO_35.out) (Kd.R_base ho0) hb); have n4_ := am_ (Kd.R_lower (Kd.R_new' (Kd.R_new' ho0 (Kd.R_lt (ru HO_6.out))) (Kd.R_lt (ru HO_35.out))) (below_size z37_5)); have n5_ := am_ (blk_below (bu BK247.out) hb); have n6_ := am_ (blk_below (bu BK252.out) hb); have n7_ := am_ (below_step z37_5 hb); clear HO_6 HO_7 HO_29 HO_35 BK247 BK252 HB; have HO_6 := n0_; have HO_7 := n1_; have HO_29 := n2_; have HO_35 := n3_; have HO270 := n4_; have BK247 := n5_; have BK252 := n6_; have HB := n7_; clear n0_ n1_ n2_ n3_ n4_ n5_ n6_ n7_; (try clear hb); (try clear hb2); (try clear hk); (try clear hi); (try clear ho0)) | ((with_reducible refine gate_builtin (b := .append) (xs := #[.tmp 43, .tmp 45]) rfl ?_); at_builtin; refine Kd.R_append (Kd.int .i64) (w0 := w) w.heap.size rfl (.tmp 43) (.tmp 45) 24 3 (.int .i64 0) 8 rfl Try.underlying24 info3 rfl (by decide) (by omega) v269 t268 (rd x6_9 x37_4) [.int .i64 (rd x6_9 x37_4)] (fun k_ => some k_ ≠ (.slice (some ad267) x6_9.length co33 : Value).ownBlock ∧ some k_ ≠ (.slice (some ad267) x6_9.length co33 : Value).ownBlock) (fun _ => False) rfl rfl ?aP (fun _ hk => hk.elim) ?aF ?aO ?aB ?aS ?aL ?_; (case aP => exact rfl); (case aB => exact z37_5); (case aF => exact (fun k_ hk => ⟨Kd.fresh' (Kd.R_lt (ru HO_6.out)) k_ hk, Kd.fresh' (Kd.R_lt (ru HO_35.out)) k_ hk⟩)); (case aO => exact (ru (Kd.R_mono HO270.out (fun _ hk => ⟨hk.1.2, hk.2⟩)))); (case aS => exact (below_size z37_5)); (case aL => have := LMc38.out; omega); intro v272 w41 ho hb hg hat; replace HVin := am_ (Kd.V_afterv (ok := (fun k_ => some k_ ≠ (u7 : Value).ownBlock)) (vu HVin.out) hg hat); rw [← Ny271.out] at ho; replace HO_6 := am_ (Kd.R_after (ok := (fun _ => True)) (ru HO_6.out) hg hat); replace HO_7 := am_ (Kd.S_after (ok := (fun k_ => some k_ ≠ (.slice (some ad267) x6_9.length co33 : Value).ownBlock ∧ some k_ ≠ (.slice (some ad266) x3_1.length co29 : Value).ownBlock ∧ some k_ ≠ (.slice (some ad267) x6_9.length co33 : Value).ownBlock)) (su HO_7.out) hg hat); replace HO_29 := am_ (Kd.S_after (ok := (fun k_ => some k_ ≠ (.slice (some ad267) x6_9.length co33 : Value).ownBlock ∧ some k_ ≠ (u7 : Value).ownBlock ∧ some k_ ≠ (.slice (some ad267) x6_9.length co33 : Value).ownBlock)) (su HO_29.out) hg hat); replace HO_35 := am_ (Kd.R_after (ok := (fun _ => True)) (ru HO_35.out) hg hat); replace BK247 := am_ (blk_grown (bu BK247.out) hg (Kd.R_ne HO270.out BK247.out (by decide))); replace BK252 := am_ (blk_grown (bu BK252.out) hg (Kd.R_ne HO270.out BK252.out (by decide))); replace HB := am_ (hb); have HO273 := am_ (ho); clear HO270; clear ho hb hg hat; obtain ⟨Ao43, co43, eo43⟩ := Kd.R_slice HO273.out; subst eo43) | ((with_reducible refine gate_builtin (b := .append) (xs := #[.tmp 41, .tmp 47]) rfl ?_); at_builtin; refine Kd.S_append (Kd.slice 3 (Kd.int .i64)) (w0 := w) w.heap.size rfl (.tmp 41) (.tmp 47) 38 24 (.slice none 0 0) 24 rfl Try.underlying38 info24 rfl (by decide) (by omega) u7 x7_4 y271 [.slice Ao43 y271.length co43] (fun k_ => some k_ ≠ (.slice (some ad267) x6_9.length co33 : Value).ownBlock ∧ some k_ ≠ (.slice (some ad266) x3_1.length co29 : Value).ownBlock ∧ some k_ ≠ (.slice (some ad267) x6_9.length co33 : Value).ownBlock) (fun k_ => some k_ = (.slice Ao43 y271.length co43 : Value).ownBlock) rfl rfl ?aP (fun k_ hk_ => ((Kd.R_mono (ok' := fun k_ => ((fun k_ => some k_ ≠ (.slice (some ad267) x6_9.length co33 : Value).ownBlock ∧ some k_ ≠ (.slice (some ad266) x3_1.length co29 : Value).ownBlock ∧ some k_ ≠ (.slice (some ad267) x6_9.length co33 : Value).ownBlock)) k_ ∧ some k_ ≠ (u7 : Value).ownBlock) (Kd.R_apart' (Kd.R_apart' (HO273.out) (Kd.S_typed HO_29.out) (by decide)) (Kd.S_typed HO_7.out) (by decide)) (fun k_ hk => ⟨⟨hk.1.1.1, ⟨hk.1.2, hk.1.1.2⟩⟩, hk.2⟩))).1 k_ hk_.symm) ?aF ?aO ?aB ?aS ?aL ?_; (case aP => exact Kd.M_row (Kd.R_mono (Kd.R_tight rfl (Kd.R_mono (ok' := fun k_ => ((fun k_ => some k_ ≠ (.slice (some ad267) x6_9.length co33 : Value).ownBlock ∧ some k_ ≠ (.slice (some ad266) x3_1.length co29 : Value).ownBlock ∧ some k_ ≠ (.slice (some ad267) x6_9.length co33 : Value).ownBlock)) k_ ∧ some k_ ≠ (u7 : Value).ownBlock) (Kd.R_apart' (Kd.R_apart' (HO273.out) (Kd.S_typed HO_29.out) (by decide)) (Kd.S_typed HO_7.out) (by decide)) (fun k_ hk => ⟨⟨hk.1.1.1, ⟨hk.1.2, hk.1.1.2⟩⟩, hk.2⟩))) (fun _ h_ => h_))); (case aB => exact z37_5); (case aF => exact (fun k_ hk => ⟨Kd.fresh' (Kd.R_lt (ru HO_6.out)) k_ hk, Kd.fresh' (Kd.S_lt (su HO_29.out)) k_ hk, Kd.fresh' (Kd.R_lt (ru HO_35.out)) k_ hk⟩)); (case aO => exact (su (Kd.S_mono HO_7.out (fun k_ hk => ⟨⟨hk.1.1, ⟨hk.1.2.1, hk.1.2.2⟩⟩, fun e_ => hk.2 e_⟩)))); (case aS => exact (below_size z37_5)); (case aL => have := LMc39.out; omega); intro v275 w42 ho hb hg hat; replace HVin := am_ (Kd.V_afterv (ok := (fun _ => True)) (vu (Kd.V_mono HVin.out (fun _ hk => ⟨trivial, hk.1⟩))) hg hat); rw [← Ny274.out] at ho; replace HO_6 := am_ (Kd.R_over' (ru HO_6.out) (Kd.S_typed (su HO_7.out)) (by decide) hg); replace HO_29 := am_ (Kd.S_after (ok := (fun k_ => some k_ ≠ (.slice (some ad267) x6_9.length co33 : Value).ownBlock ∧ some k_ ≠ (.slice (some ad267) x6_9.length co33 : Value).ownBlock ∧ some k_ ≠ (.slice Ao43 y271.length co43 : Value).ownBlock)) (su (Kd.S_mono HO_29.out (fun _ hk => ⟨⟨hk.1.1, ⟨hk.1.2.2, hk.2⟩⟩, hk.1.2.1⟩))) hg hat); replace HO_35 := am_ (Kd.R_over' (ru HO_35.out) (Kd.S_typed (su HO_7.out)) (by decide) hg); replace BK247 := am_ (blk_grown (bu BK247.out) hg (Kd.S_ne HO_7.out BK247.out (by decide))); replace BK252 := am_ (blk_grown (bu BK252.out) hg (Kd.S_ne HO_7.out BK252.out (by decide))); replace HB := am_ (hb); have HO276 := am_ (ho); clear HO_7 HO273; clear ho hb hg hat))
                    go_roundg k4
                    case measure => have := HK1.out; have := HJ9.out; have := HK3.out; have := HK4.out; omega
                    case rel => exact ⟨(y274), (wrap64 (x37_4 + 1)), z37_1, H', ⟨by have := HK1.out; have := HJ9.out; have := HK3.out; have := HK4.out; omega⟩, ⟨ru (Kd.R_mono HO_6.out (fun _ hk => trivial))⟩, ⟨su HO276.out⟩, ⟨su (Kd.S_mono HO_29.out (fun _ hk => ⟨hk.1.1, ⟨hk.2, hk.1.2.1⟩⟩))⟩, ⟨ru (Kd.R_mono HO_35.out (fun _ hk => trivial))⟩, ⟨bu BK247.out⟩, ⟨bu BK252.out⟩, ⟨vu (Kd.V_mono HVin.out (fun _ hk => hk.2))⟩, ⟨z37_5⟩⟩
                   rw [if_neg c39] at H
                   exact absurd H (by simp)
                  rw [if_neg c38] at H
                  exact absurd H (by simp)
                 rw [if_neg c36] at H
                 exact absurd H (by simp)
                rw [if_neg c35] at H
                exact absurd H (by simp)
               rw [if_neg c34] at H
               have c34b0 : decide (x37_4 < (x6_9.length : Int)) = false := decide_eq_false c34
               clear c34
               have H' := am_ H
               clear H
               go_wp2
               go_roundg k4
               case measure => have := HK1.out; have := HJ9.out; have := HK3.out; have := HK4.out; omega
               case rel => exact ⟨(x7_4), (wrap64 (x31_3 + 1)), z37_1, H', ⟨by have := HK1.out; have := HJ9.out; have := HK3.out; have := HK4.out; omega⟩, ⟨ru HO_6.out⟩, ⟨su (Kd.S_mono HO_7.out (fun _ hk => ⟨hk.1, hk.2.1⟩))⟩, ⟨su (Kd.S_mono HO_29.out (fun _ hk => ⟨hk.1, hk.2.1⟩))⟩, ⟨bu BK247.out⟩, ⟨bu BK252.out⟩, ⟨z37_5⟩⟩
            rw [if_neg c32] at H
            exact absurd H (by simp)
           rw [if_neg c31] at H
           exact absurd H (by simp)
          rw [if_neg c30] at H
          have c30b0 : decide (x31_3 < (x3_1.length : Int)) = false := decide_eq_false c30
          clear c30
          have H' := am_ H
          clear H
          go_wp2
          go_roundg k3
          case measure => have := HK1.out; have := HJ9.out; have := HK3.out; omega
          case rel => exact ⟨(x7_3), (wrap64 (x16_1 + 1)), z37_1, H', ⟨by have := HK1.out; have := HJ9.out; have := HK3.out; omega⟩, ⟨su (Kd.S_mono HO_7.out (fun _ hk => trivial))⟩, ⟨bu BK247.out⟩, ⟨z37_5⟩⟩
     rw [if_neg c8] at H
     exact absurd H (by simp)
    rw [if_neg c7] at H
    exact absurd H (by simp)
   rw [if_neg c6] at H
   have c6b0 : decide (x16_1 < (l0_2.length : Int)) = false := decide_eq_false c6
   clear c6
   obtain rfl := Option.some.inj H
   go_wp2
   go_ret
   exact ⟨_, by first | rfl | (simp [errW_none, errW_some] <;> rfl) | (simp [*, errW_none, errW_some] <;> rfl), su HO_3.out, z37_4⟩

end Go.Proofs.Ytmkchdlkpbnldaa.PB

namespace Go.Proofs.Ytmkchdlkpbnldaa.PB
open Go.RowKit Go.Proofs.YtmkchdlkpbnldaaW.PrintWords Go.Proofs.YtmkchdlkpbnldaaW.PrintLast Go.Proofs.YtmkchdlkpbnldaaW.PrintMore
attribute [local go_sem] max2_int min2_int max_two min_two max_three min_three max_four min_four   -- for this text's walks alone
open Go.Proofs.YtmkchdlkpbnldaaMine
set_option linter.unusedVariables false
set_option linter.unusedSimpArgs false

theorem z49_1 {p : Prop} (h : p := by first | (with_reducible assumption) | assumption) : p := h
theorem z49_2 {p : Prop} (h : p := by repeat (first | (with_reducible first | exact HB.out | apply below_alloc | apply pw_below_drewN | apply below_drew1) | exact HB.out)) : p := h
theorem z49_3 {p : Prop} (h : p := by repeat (first | (with_reducible first | exact HB.out | apply below_alloc | apply pw_below_drewN | apply below_drew1 | refine below_set ?_ GE277.out) | exact HB.out)) : p := h
/-! ### impl_scene_lastRead: function 49 -/
def impl_scene_lastRead.l0 : Nat → Int → List (List (S70)) → List (S80) → List (S70) → Option (Int)
  | 0, _, _, _, _ => none
  | k + 1, x1, x01, x02, x00 => if 0 ≤ x1 then (if x1 < (x00.length : Int) then ((impl_Do_reads.f ((rd_T70 x00 x1).f0) ((rd_T70 x00 x1).f1) ((rd_T70 x00 x1).f2)).bind fun t279 => (if t279 = true then (some x1) else (impl_scene_lastRead.l0 k (wrap64 (x1 - 1)) x01 x02 x00))) else (none)) else (none)
def impl_scene_lastRead.f (k : Nat) (l0_0 : List (List (S70))) (l0_1 : List (S80)) (l0_2 : List (S70)) (a1 : Int) : Option (Int) := impl_scene_lastRead.l0 k (wrap64 (a1 - 1)) l0_0 l0_1 l0_2
set_option maxHeartbeats 8000000 in
set_option maxRecDepth 100000 in
theorem impl_scene_lastRead.calls (k : Nat) (A0_0 : Option Addr) (c0_0 : Nat) (l0_0 : List (List (S70))) (A0_1 : Option Addr) (c0_1 : Nat) (l0_1 : List (S80)) (A0_2 : Option Addr) (c0_2 : Nat) (l0_2 : List (S70)) (a1 : Int) (r : Int) (w : World) (hr0_0 : Kd.C (Kd.slice 70 k70) w A0_0 l0_0.length l0_0) (hc0_0 : l0_0.length ≤ c0_0) (hr0_1 : Kd.C k80 w A0_1 l0_1.length l0_1) (hc0_1 : l0_1.length ≤ c0_1) (hr0_2 : Kd.C k70 w A0_2 l0_2.length l0_2) (hc0_2 : l0_2.length ≤ c0_2) (h : impl_scene_lastRead.f k l0_0 l0_1 l0_2 a1 = some r) :
  Calls Try.prog 49 #[.agg #[.slice A0_0 l0_0.length c0_0, .slice A0_1 l0_1.length c0_1, .slice A0_2 l0_2.length c0_2], .int .i64 a1] w fun e w' => e = .returned (.int .i64 r) ∧ Below w.heap.size w w' := by
 have hu60 := Try.underlying60
 have hu70 := Try.underlying70
 have HR0_0 := am_ hr0_0
 have HC0_0 := am_ hc0_0
 clear hr0_0 hc0_0
 have HR0_1 := am_ hr0_1
 have HC0_1 := am_ hc0_1
 clear hr0_1 hc0_1
 have HR0_2 := am_ hr0_2
 have HC0_2 := am_ hc0_2
 clear hr0_2 hc0_2
 have HB := am_ (Below.refl w.heap.size w)
 have H : (impl_scene_lastRead.l0 k (wrap64 (a1 - 1)) l0_0 l0_1 l0_2) = some r := h
 clear h
 have H' := am_ H
 clear H
 go_enter Try.func49, Try.ntmps49
 go_wp2_with (first | ((with_reducible refine gate_dst (N := 2) rfl ?_); refine box_event ?hg (N := 2) ?hd (cs := #[.slice A0_0 l0_0.length c0_0, .slice A0_1 l0_1.length c0_1, .slice A0_2 l0_2.length c0_2]) (t := 60) ?hr ?_; (case hd => rfl); (case hg => rfl); (case hr => first | (go_simp; done) | (go_simp; rfl)); intro gb277 hg w3 hbox hb; have n0_ := am_ (below_step z49_2 hb); have n1_ := am_ (hbox); have n2_ := am_ (by rw [hg]; exact (below_size z49_2) : w.heap.size ≤ gb277); have n3_ := am_ (by rw [hg]; exact (below_size z49_2) : w.heap.size ≤ gb277); clear HB; have HB := n0_; have BK277 := n1_; have GW277 := n2_; have GE277 := n3_; clear n0_ n1_ n2_ n3_; clear hb hbox hg))
 go_loopg [1] k (fun kq v1 w' => ∃ (x1_1 : Int), v1 = .int .i64 x1_1 ∧ Aside0 (impl_scene_lastRead.l0 kq x1_1 l0_0 l0_1 l0_2 = some r) ∧ Aside0 (kq ≤ k) ∧ Aside0 (w'.heap[gb277]? = some (.cells #[(.slice A0_0 l0_0.length c0_0), (.slice A0_1 l0_1.length c0_1), (.slice A0_2 l0_2.length c0_2)] 60 (0, 0))) ∧ Aside0 (Below w.heap.size w w'))
 case atStart => exact ⟨(wrap64 (a1 - 1)), (by first | rfl | (simp; done) | (simp [*]; done)), H', ⟨Nat.le_refl _⟩, ⟨bu BK277.out⟩, ⟨z49_3⟩⟩
 case round =>
  clear H'
  obtain ⟨x1_1, rfl, HA, HK1, BK277, HB⟩ := hrel
  cases gk with
  | zero => exact absurd HA.out (by simp [impl_scene_lastRead.l0])
  | succ k1 =>
   have H := HA.out
   clear HA
   simp only [impl_scene_lastRead.l0] at H
   by_cases c4 : 0 ≤ x1_1
   ·rw [if_pos c4] at H
    have c4b0 : decide (0 ≤ x1_1) = true := decide_eq_true c4
    clear c4
    by_cases c5 : x1_1 < (l0_2.length : Int)
    ·rw [if_pos c5] at H
     have c5b0 : decide (x1_1 < (l0_2.length : Int)) = true := decide_eq_true c5
     clear c5
     replace H := Option.bind_eq_some_iff.mp H
     obtain ⟨t279, A60, H⟩ := H
     replace H : (if t279 = true then (some x1_1) else (impl_scene_lastRead.l0 k1 (wrap64 (x1_1 - 1)) l0_0 l0_1 l0_2)) = some r := H
     have A6 := am_ A60
     clear A60
     by_cases c7 : t279 = true
     ·subst c7
      have H1 : (some x1_1) = some r := by rw [if_pos rfl] at H; exact H
      clear H
      have H := H1
      clear H1
      obtain rfl := Option.some.inj H
      have hcz8_0 := cf0 BK277.out
      have hcz8_1 := cf1 BK277.out
      have hcz8_2 := cf2 BK277.out
      have hfz8_0 := blk_frozen BK277.out 0
      have hfz8_1 := blk_frozen BK277.out 1
      have hfz8_2 := blk_frozen BK277.out 2
      have p278 : 0 ≤ (x1_1 : Int) := of_decide_eq_true z49_1
      have q278 : x1_1 < (l0_2.length : Int) := of_decide_eq_true z49_1
      obtain ⟨ad278, e278, hx278_0, hx278_1, hx278_2⟩ := at_T70 HR0_2.out x1_1 p278 q278
      cases e278
      replace hx278_0 := (HB.out.cell (World.block_lt_of_cell? w _ hx278_0)).trans hx278_0
      replace hx278_1 := (HB.out.cell (World.block_lt_of_cell? w _ hx278_1)).trans hx278_1
      replace hx278_2 := (HB.out.cell (World.block_lt_of_cell? w _ hx278_2)).trans hx278_2
      replace p278 := eq_true p278
      replace q278 := eq_true q278
      go_wp2_with (first | ((with_reducible refine gate_callee (f := 31) rfl ?_); refine goesL_ (some 12) rfl rfl Try.func31 (by kernel_rfl) rfl #[.agg #[.int .i64 ((rd_T70 l0_2 x1_1).f0), .int .i64 ((rd_T70 l0_2 x1_1).f1), .int .i64 ((rd_T70 l0_2 x1_1).f2)]] rfl (by (try simp only [List.map_toArray, List.map_cons, List.map_nil]); first | done | rfl | (simp only [List.length_drop, List.length_take]; rfl)) ?_; (with_reducible refine (impl_Do_reads.calls ((rd_T70 l0_2 x1_1).f0) ((rd_T70 l0_2 x1_1).f1) ((rd_T70 l0_2 x1_1).f2) true _ A6.out).mono ?_); rintro e w9 ⟨rfl, hb⟩; refine ⟨_, rfl, ?_⟩; replace BK277 := am_ (blk_below (bu BK277.out) hb); replace HB := am_ (below_step z49_3 hb); (try clear hb); (try clear hb2); (try clear hk); (try clear hi)))
      go_ret
      exact ⟨by first | rfl | (simp [errW_none, errW_some] <;> rfl) | (simp [*, errW_none, errW_some] <;> rfl), z49_3⟩
     replace c7 := Bool.eq_false_iff.mpr c7
     subst c7
     have H1 : (impl_scene_lastRead.l0 k1 (wrap64 (x1_1 - 1)) l0_0 l0_1 l0_2) = some r := by rw [if_neg (show ¬ (false = true) by decide)] at H; exact H
     clear H
     have H := H1
     clear H1
     have H' := am_ H
     clear H
     have hcz10_0 := cf0 BK277.out
     have hcz10_1 := cf1 BK277.out
     have hcz10_2 := cf2 BK277.out
     have hfz10_0 := blk_frozen BK277.out 0
     have hfz10_1 := blk_frozen BK277.out 1
     have hfz10_2 := blk_frozen BK277.out 2
     have p278 : 0 ≤ (x1_1 : Int) := of_decide_eq_true z49_1
     have q278 : x1_1 < (l0_2.length : Int) := of_decide_eq_true z49_1
     obtain ⟨ad278, e278, hx278_0, hx278_1, hx278_2⟩ := at_T70 HR0_2.out x1_1 p278 q278
     cases e278
     replace hx278_0 := (HB.out.cell (World.block_lt_of_cell? w _ hx278_0)).trans hx278_0
     replace hx278_1 := (HB.out.cell (World.block_lt_of_cell? w _ hx278_1)).trans hx278_1
     replace hx278_2 := (HB.out.cell (World.block_lt_of_cell? w _ hx278_2)).trans hx278_2
     replace p278 := eq_true p278
     replace q278 := eq_true q278
     go_wp2_with (first | ((with_reducible refine gate_callee (f := 31) rfl ?_); refine goesL_ (some 12) rfl rfl Try.func31 (by kernel_rfl) rfl #[.agg #[.int .i64 ((rd_T70 l0_2 x1_1).f0), .int .i64 ((rd_T70 l0_2 x1_1).f1), .int .i64 ((rd_T70 l0_2 x1_1).f2)]] rfl (by (try simp only [List.map_toArray, List.map_cons, List.map_nil]); first | done | rfl | (simp only [List.length_drop, List.length_take]; rfl)) ?_; (with_reducible refine (impl_Do_reads.calls ((rd_T70 l0_2 x1_1).f0) ((rd_T70 l0_2 x1_1).f1) ((rd_T70 l0_2 x1_1).f2) false _ A6.out).mono ?_); rintro e w11 ⟨rfl, hb⟩; refine ⟨_, rfl, ?_⟩; replace BK277 := am_ (blk_below (bu BK277.out) hb); replace HB := am_ (below_step z49_3 hb); (try clear hb); (try clear hb2); (try clear hk); (try clear hi)))
     go_roundg k1
     case measure => have := HK1.out; omega
     case rel => exact ⟨(wrap64 (x1_1 - 1)), (by first | rfl | (simp; done) | (simp [*]; done)), H', ⟨by have := HK1.out; omega⟩, ⟨bu BK277.out⟩, ⟨z49_3⟩⟩
    rw [if_neg c5] at H
    exact absurd H (by simp)
   rw [if_neg c4] at H
   exact absurd H (by simp)

end Go.Proofs.Ytmkchdlkpbnldaa.PB

namespace Go.Proofs.Ytmkchdlkpbnldaa.PB
open Go.RowKit Go.Proofs.YtmkchdlkpbnldaaW.PrintWords Go.Proofs.YtmkchdlkpbnldaaW.PrintLast Go.Proofs.YtmkchdlkpbnldaaW.PrintMore
attribute [local go_sem] max2_int min2_int max_two min_two max_three min_three max_four min_four   -- for this text's walks alone
open Go.Proofs.YtmkchdlkpbnldaaMine
set_option linter.unusedVariables false
set_option linter.unusedSimpArgs false

theorem z39_1 {p : Prop} (h : p := by first | rfl | (simp; done) | (simp [*]; done)) : p := h
theorem z39_2 {p : Prop} (h : p := by first | (with_reducible assumption) | assumption) : p := h
theorem z39_3 {p : Prop} (h : p := by first | rfl | (simp [errW_none, errW_some] <;> rfl) | (simp [*, errW_none, errW_some] <;> rfl)) : p := h
theorem z39_4 {p : Prop} (h : p := by repeat (first | (with_reducible first | exact HB.out | apply below_alloc | apply pw_below_drewN | apply below_drew1) | exact HB.out)) : p := h
theorem z39_5 {p : Prop} (h : p := by repeat (first | (with_reducible first | exact HB.out | apply below_alloc | apply pw_below_drewN | apply below_drew1 | refine below_set ?_ GE280.out) | exact HB.out)) : p := h
theorem z39_6 {p : Prop} (h : p := by repeat (first | (with_reducible first | exact HB.out | apply below_alloc | apply pw_below_drewN | apply below_drew1 | refine below_set ?_ GE280.out | refine below_set ?_ GE281.out) | exact HB.out)) : p := h
theorem z39_7 {p : Prop} (h : p := by repeat (first | (with_reducible first | exact HB.out | apply below_alloc | apply pw_below_drewN | apply below_drew1 | refine below_set ?_ GE280.out | refine below_set ?_ GE281.out | refine below_set ?_ GE283.out) | exact HB.out)) : p := h
theorem z39_8 {p : Prop} (h : p := by (with_reducible repeat (first | refine blk_drewN ?_ _ | refine blk_drew ?_ | refine blk_alloc ?_ _)); refine blk_far ?_ NB280_283.out _; (with_reducible repeat (first | refine blk_drewN ?_ _ | refine blk_drew ?_ | refine blk_alloc ?_ _)); refine blk_far ?_ NB280_283.out _; (with_reducible repeat (first | refine blk_drewN ?_ _ | refine blk_drew ?_ | refine blk_alloc ?_ _)); refine blk_far ?_ NB280_283.out _; (with_reducible repeat (first | refine blk_drewN ?_ _ | refine blk_drew ?_ | refine blk_alloc ?_ _)); exact BK280.out) : p := h
theorem z39_9 {p : Prop} (h : p := by (with_reducible repeat (first | refine blk_drewN ?_ _ | refine blk_drew ?_ | refine blk_alloc ?_ _)); refine blk_far ?_ NB281_283.out _; (with_reducible repeat (first | refine blk_drewN ?_ _ | refine blk_drew ?_ | refine blk_alloc ?_ _)); refine blk_far ?_ NB281_283.out _; (with_reducible repeat (first | refine blk_drewN ?_ _ | refine blk_drew ?_ | refine blk_alloc ?_ _)); refine blk_far ?_ NB281_283.out _; (with_reducible repeat (first | refine blk_drewN ?_ _ | refine blk_drew ?_ | refine blk_alloc ?_ _)); exact BK281.out) : p := h
theorem z39_10 {p : Prop} (h : p := by (with_reducible repeat (first | refine blk_drewN ?_ _ | refine blk_drew ?_ | refine blk_alloc ?_ _)); refine blk_put (cs := #[.int .i64 ((rd_T70 l0_2 x2_1).f0), .int .i64 ((rd_T70 l0_2 x2_1).f1), .int .i64 0]) ?_ 2 _ rfl; (with_reducible repeat (first | refine blk_drewN ?_ _ | refine blk_drew ?_ | refine blk_alloc ?_ _)); refine blk_put (cs := #[.int .i64 ((rd_T70 l0_2 x2_1).f0), .int .i64 0, .int .i64 0]) ?_ 1 _ rfl; (with_reducible repeat (first | refine blk_drewN ?_ _ | refine blk_drew ?_ | refine blk_alloc ?_ _)); refine blk_put (cs := #[.int .i64 0, .int .i64 0, .int .i64 0]) ?_ 0 _ rfl; (with_reducible repeat (first | refine blk_drewN ?_ _ | refine blk_drew ?_ | refine blk_alloc ?_ _)); exact BK283.out) : p := h
/-! ### impl_scene_value: function 39 -/
def impl_scene_value.l0 : Nat → Int → Int → Int → List (List (S70)) → List (S80) → List (S70) → List Int → List (List Int) → Option (Int × Bool)
  | 0, _, _, _, _, _, _, _, _ => none
  | k + 1, x2, x11, x12, x02, x03, x00, x01, x04 => if x12 < x11 then (if 0 ≤ x2 then (if x2 < (x00.length : Int) then ((impl_Do_valued.f ((rd_T70 x00 x2).f0) ((rd_T70 x00 x2).f1) ((rd_T70 x00 x2).f2)).bind fun t284 => (if t284 = true then (some ((rd_T70 x00 x2).f2, true)) else (if ((rd_T70 x00 x2).f0) = 3 then ((impl_scene_lastRead.f k x02 x03 x00 x2).bind fun t285 => (impl_scene_value.l0 k t285 x11 (wrap64 (x12 + 1)) x02 x03 x00 x01 x04)) else (if x2 < (x01.length : Int) then (if (rd x01 x2) = (-1) then (some (0, true)) else (impl_scene_value.l0 k (rd x01 x2) x11 (wrap64 (x12 + 1)) x02 x03 x00 x01 x04)) else (none))))) else (none)) else (none)) else (some (0, false))
def impl_scene_value.f (k : Nat) (l0_0 : List (List (S70))) (l0_1 : List (S80)) (l0_2 : List (S70)) (l1_0 : List Int) (l1_1 : List (List Int)) (a2 : Int) : Option (Int × Bool) := impl_scene_value.l0 k a2 (l0_1.length : Int) 0 l0_0 l0_1 l0_2 l1_0 l1_1
set_option maxHeartbeats 8000000 in
set_option maxRecDepth 100000 in
theorem impl_scene_value.calls (k : Nat) (A0_0 : Option Addr) (c0_0 : Nat) (l0_0 : List (List (S70))) (A0_1 : Option Addr) (c0_1 : Nat) (l0_1 : List (S80)) (A0_2 : Option Addr) (c0_2 : Nat) (l0_2 : List (S70)) (A1_0 : Option Addr) (c1_0 : Nat) (l1_0 : List Int) (A1_1 : Option Addr) (c1_1 : Nat) (l1_1 : List (List Int)) (a2 : Int) (r1 : Int) (r2 : Bool) (w : World) (hr0_0 : Kd.C (Kd.slice 70 k70) w A0_0 l0_0.length l0_0) (hc0_0 : l0_0.length ≤ c0_0) (hr0_1 : Kd.C k80 w A0_1 l0_1.length l0_1) (hc0_1 : l0_1.length ≤ c0_1) (hr0_2 : Kd.C k70 w A0_2 l0_2.length l0_2) (hc0_2 : l0_2.length ≤ c0_2) (hr1_0 : Kd.C (Kd.int .i64) w A1_0 l1_0.length l1_0) (hc1_0 : l1_0.length ≤ c1_0) (hr1_1 : Kd.C (Kd.slice 3 (Kd.int .i64)) w A1_1 l1_1.length l1_1) (hc1_1 : l1_1.length ≤ c1_1) (h : impl_scene_value.f k l0_0 l0_1 l0_2 l1_0 l1_1 a2 = some (r1, r2)) :
  Calls Try.prog 39 #[.agg #[.slice A0_0 l0_0.length c0_0, .slice A0_1 l0_1.length c0_1, .slice A0_2 l0_2.length c0_2], .agg #[.slice A1_0 l1_0.length c1_0, .slice A1_1 l1_1.length c1_1], .int .i64 a2] w fun e w' => e = .returned (.tuple #[.int .i64 r1, .bool r2]) ∧ Below w.heap.size w w' := by
 have hu60 := Try.underlying60
 have hu40 := Try.underlying40
 have hu70 := Try.underlying70
 have HR0_0 := am_ hr0_0
 have HC0_0 := am_ hc0_0
 clear hr0_0 hc0_0
 have HR0_1 := am_ hr0_1
 have HC0_1 := am_ hc0_1
 clear hr0_1 hc0_1
 have HR0_2 := am_ hr0_2
 have HC0_2 := am_ hc0_2
 clear hr0_2 hc0_2
 have HR1_0 := am_ hr1_0
 have HC1_0 := am_ hc1_0
 clear hr1_0 hc1_0
 have HR1_1 := am_ hr1_1
 have HC1_1 := am_ hc1_1
 clear hr1_1 hc1_1
 have HB := am_ (Below.refl w.heap.size w)
 have H : (impl_scene_value.l0 k a2 (l0_1.length : Int) 0 l0_0 l0_1 l0_2 l1_0 l1_1) = some (r1, r2) := h
 clear h
 have H' := am_ H
 clear H
 go_enter Try.func39, Try.ntmps39
 go_wp2_with (first | ((with_reducible refine gate_dst (N := 3) rfl ?_); refine box_event ?hg (N := 3) ?hd (cs := #[.slice A0_0 l0_0.length c0_0, .slice A0_1 l0_1.length c0_1, .slice A0_2 l0_2.length c0_2]) (t := 60) ?hr ?_; (case hd => rfl); (case hg => rfl); (case hr => first | (go_simp; done) | (go_simp; rfl)); intro gb280 hg w4 hbox hb; have n0_ := am_ (below_step z39_4 hb); have n1_ := am_ (hbox); have n2_ := am_ (by rw [hg]; exact (below_size z39_4) : w.heap.size ≤ gb280); have n3_ := am_ (by rw [hg]; exact (below_size z39_4) : w.heap.size ≤ gb280); clear HB; have HB := n0_; have BK280 := n1_; have GW280 := n2_; have GE280 := n3_; clear n0_ n1_ n2_ n3_; clear hb hbox hg) | ((with_reducible refine gate_dst (N := 4) rfl ?_); refine box_event ?hg (N := 4) ?hd (cs := #[.slice A1_0 l1_0.length c1_0, .slice A1_1 l1_1.length c1_1]) (t := 40) ?hr ?_; (case hd => rfl); (case hg => rfl); (case hr => first | (go_simp; done) | (go_simp; rfl)); intro gb281 hg w5 hbox hb; have n0_ := am_ (blk_below (bu BK280.out) hb); have n1_ := am_ (below_step z39_5 hb); have n2_ := am_ (hbox); have n3_ := am_ (by rw [hg]; exact (below_size z39_5) : w.heap.size ≤ gb281); have n4_ := am_ (by rw [hg]; exact (below_size z39_5) : w.heap.size ≤ gb281); have n5_ := am_ (by rw [hg]; exact Nat.ne_of_lt (blk_lt (bu BK280.out)) : gb280 ≠ gb281); have n6_ := am_ (by rw [hg]; exact Nat.ne_of_gt (blk_lt (bu BK280.out)) : gb281 ≠ gb280); clear BK280 HB; have BK280 := n0_; have HB := n1_; have BK281 := n2_; have GW281 := n3_; have GE281 := n4_; have NB280_281 := n5_; have NB281_280 := n6_; clear n0_ n1_ n2_ n3_ n4_ n5_ n6_; clear hb hbox hg; have hnb6 := NB280_281.out; have hnc6 := NB281_280.out; have hcz7_0 := cf0 BK280.out; have hcz7_1 := cf1 BK280.out; have hcz7_2 := cf2 BK280.out; have hfz7_0 := blk_frozen BK280.out 0; have hfz7_1 := blk_frozen BK280.out 1; have hfz7_2 := blk_frozen BK280.out 2))
 go_loopg [2, 12] k (fun kq v2 v12 w' => ∃ (x2_1 : Int) (x12_1 : Int), v2 = .int .i64 x2_1 ∧ v12 = .int .i64 x12_1 ∧ Aside0 (impl_scene_value.l0 kq x2_1 (l0_1.length : Int) x12_1 l0_0 l0_1 l0_2 l1_0 l1_1 = some (r1, r2)) ∧ Aside0 (kq ≤ k) ∧ Aside0 (w'.heap[gb280]? = some (.cells #[(.slice A0_0 l0_0.length c0_0), (.slice A0_1 l0_1.length c0_1), (.slice A0_2 l0_2.length c0_2)] 60 (0, 0))) ∧ Aside0 (w'.heap[gb281]? = some (.cells #[(.slice A1_0 l1_0.length c1_0), (.slice A1_1 l1_1.length c1_1)] 40 (0, 0))) ∧ Aside0 (Below w.heap.size w w'))
 case atStart => exact ⟨(a2), (0), z39_1, z39_1, H', ⟨Nat.le_refl _⟩, ⟨bu BK280.out⟩, ⟨bu BK281.out⟩, ⟨z39_6⟩⟩
 case round =>
  clear H'
  obtain ⟨x2_1, x12_1, rfl, rfl, HA, HK1, BK280, BK281, HB⟩ := hrel
  cases gk with
  | zero => exact absurd HA.out (by simp [impl_scene_value.l0])
  | succ k1 =>
   have H := HA.out
   clear HA
   simp only [impl_scene_value.l0] at H
   by_cases c8 : x12_1 < (l0_1.length : Int)
   ·rw [if_pos c8] at H
    have c8b0 : decide (x12_1 < (l0_1.length : Int)) = true := decide_eq_true c8
    clear c8
    by_cases c9 : 0 ≤ x2_1
    ·rw [if_pos c9] at H
     have c9b0 : decide (0 ≤ x2_1) = true := decide_eq_true c9
     clear c9
     by_cases c10 : x2_1 < (l0_2.length : Int)
     ·rw [if_pos c10] at H
      have c10b0 : decide (x2_1 < (l0_2.length : Int)) = true := decide_eq_true c10
      clear c10
      replace H := Option.bind_eq_some_iff.mp H
      obtain ⟨t284, A110, H⟩ := H
      replace H : (if t284 = true then (some ((rd_T70 l0_2 x2_1).f2, true)) else (if ((rd_T70 l0_2 x2_1).f0) = 3 then ((impl_scene_lastRead.f k1 l0_0 l0_1 l0_2 x2_1).bind fun t285 => (impl_scene_value.l0 k1 t285 (l0_1.length : Int) (wrap64 (x12_1 + 1)) l0_0 l0_1 l0_2 l1_0 l1_1)) else (if x2_1 < (l1_0.length : Int) then (if (rd l1_0 x2_1) = (-1) then (some (0, true)) else (impl_scene_value.l0 k1 (rd l1_0 x2_1) (l0_1.length : Int) (wrap64 (x12_1 + 1)) l0_0 l0_1 l0_2 l1_0 l1_1)) else (none)))) = some (r1, r2) := H
      have A11 := am_ A110
      clear A110
      by_cases c12 : t284 = true
      ·subst c12
       have H1 : (some ((rd_T70 l0_2 x2_1).f2, true)) = some (r1, r2) := by rw [if_pos rfl] at H; exact H
       clear H
       have H := H1
       clear H1
       simp only [Option.some.injEq, Prod.mk.injEq] at H
       obtain ⟨rfl, rfl⟩ := H
       have hnb13 := NB280_281.out
       have hnc13 := NB281_280.out
       have hcz14_0 := cf0 BK280.out
       have hcz14_1 := cf1 BK280.out
       have hcz14_2 := cf2 BK280.out
       have hfz14_0 := blk_frozen BK280.out 0
       have hfz14_1 := blk_frozen BK280.out 1
       have hfz14_2 := blk_frozen BK280.out 2
       have p282 : 0 ≤ (x2_1 : Int) := of_decide_eq_true z39_2
       have q282 : x2_1 < (l0_2.length : Int) := of_decide_eq_true z39_2
       obtain ⟨ad282, e282, hx282_0, hx282_1, hx282_2⟩ := at_T70 HR0_2.out x2_1 p282 q282
       cases e282
       replace hx282_0 := (HB.out.cell (World.block_lt_of_cell? w _ hx282_0)).trans hx282_0
       replace hx282_1 := (HB.out.cell (World.block_lt_of_cell? w _ hx282_1)).trans hx282_1
       replace hx282_2 := (HB.out.cell (World.block_lt_of_cell? w _ hx282_2)).trans hx282_2
       replace p282 := eq_true p282
       replace q282 := eq_true q282
       go_wp2_with (first | ((with_reducible refine gate_dst (N := 8) rfl ?_); refine box_event ?hg (N := 8) ?hd (cs := #[.int .i64 0, .int .i64 0, .int .i64 0]) (t := 70) ?hr ?_; (case hd => rfl); (case hg => rfl); (case hr => first | (go_simp; done) | (go_simp; rfl)); intro gb283 hg w15 hbox hb; have n0_ := am_ (blk_below (bu BK280.out) hb); have n1_ := am_ (blk_below (bu BK281.out) hb); have n2_ := am_ (below_step z39_6 hb); have n3_ := am_ (hbox); have n4_ := am_ (by rw [hg]; exact (below_size z39_6) : w.heap.size ≤ gb283); have n5_ := am_ (by rw [hg]; exact (below_size z39_6) : w.heap.size ≤ gb283); have n6_ := am_ (by rw [hg]; exact Nat.ne_of_lt (blk_lt (bu BK280.out)) : gb280 ≠ gb283); have n7_ := am_ (by rw [hg]; exact Nat.ne_of_gt (blk_lt (bu BK280.out)) : gb283 ≠ gb280); have n8_ := am_ (by rw [hg]; exact Nat.ne_of_lt (blk_lt (bu BK281.out)) : gb281 ≠ gb283); have n9_ := am_ (by rw [hg]; exact Nat.ne_of_gt (blk_lt (bu BK281.out)) : gb283 ≠ gb281); clear BK280 BK281 HB; have BK280 := n0_; have BK281 := n1_; have HB := n2_; have BK283 := n3_; have GW283 := n4_; have GE283 := n5_; have NB280_283 := n6_; have NB283_280 := n7_; have NB281_283 := n8_; have NB283_281 := n9_; clear n0_ n1_ n2_ n3_ n4_ n5_ n6_ n7_ n8_ n9_; clear hb hbox hg; have hnb16 := NB283_280.out; have hnc16 := NB280_283.out; have hnb17 := NB283_281.out; have hnc17 := NB281_283.out; have hcz18_0 := cf0 BK283.out; have hcz18_1 := cf1 BK283.out; have hcz18_2 := cf2 BK283.out; have hfz18_0 := blk_frozen BK283.out 0; have hfz18_1 := blk_frozen BK283.out 1; have hfz18_2 := blk_frozen BK283.out 2) | ((with_reducible refine gate_callee (f := 48) rfl ?_); refine goesL_ (some 26) rfl rfl Try.func48 (by kernel_rfl) rfl #[.agg #[.int .i64 ((rd_T70 l0_2 x2_1).f0), .int .i64 ((rd_T70 l0_2 x2_1).f1), .int .i64 ((rd_T70 l0_2 x2_1).f2)]] rfl (by (try simp only [List.map_toArray, List.map_cons, List.map_nil]); first | done | rfl | (simp only [List.length_drop, List.length_take]; rfl)) ?_; (with_reducible refine (impl_Do_valued.calls ((rd_T70 l0_2 x2_1).f0) ((rd_T70 l0_2 x2_1).f1) ((rd_T70 l0_2 x2_1).f2) true _ A11.out).mono ?_); rintro e w19 ⟨rfl, hb⟩; refine ⟨_, rfl, ?_⟩; replace BK280 := am_ (blk_below (g := gb280) (o := .cells #[.slice A0_0 l0_0.length c0_0, .slice A0_1 l0_1.length c0_1, .slice (some ad282) l0_2.length c0_2] 60 (0, 0)) z39_8 hb); replace BK281 := am_ (blk_below (g := gb281) (o := .cells #[.slice A1_0 l1_0.length c1_0, .slice A1_1 l1_1.length c1_1] 40 (0, 0)) z39_9 hb); replace BK283 := am_ (blk_below (g := gb283) (o := .cells #[.int .i64 ((rd_T70 l0_2 x2_1).f0), .int .i64 ((rd_T70 l0_2 x2_1).f1), .int .i64 ((rd_T70 l0_2 x2_1).f2)] 70 (0, 0)) z39_10 hb); replace HB := am_ (below_step z39_7 hb); (try clear hb); (try clear hb2); (try clear hk); (try clear hi); have hcz20_0 := cf0 BK283.out; have hcz20_1 := cf1 BK283.out; have hcz20_2 := cf2 BK283.out; have hfz20_0 := blk_frozen BK283.out 0; have hfz20_1 := blk_frozen BK283.out 1; have hfz20_2 := blk_frozen BK283.out 2))
       go_ret2
       exact ⟨z39_3, z39_7⟩
      replace c12 := Bool.eq_false_iff.mpr c12
      subst c12
      have H1 : (if ((rd_T70 l0_2 x2_1).f0) = 3 then ((impl_scene_lastRead.f k1 l0_0 l0_1 l0_2 x2_1).bind fun t285 => (impl_scene_value.l0 k1 t285 (l0_1.length : Int) (wrap64 (x12_1 + 1)) l0_0 l0_1 l0_2 l1_0 l1_1)) else (if x2_1 < (l1_0.length : Int) then (if (rd l1_0 x2_1) = (-1) then (some (0, true)) else (impl_scene_value.l0 k1 (rd l1_0 x2_1) (l0_1.length : Int) (wrap64 (x12_1 + 1)) l0_0 l0_1 l0_2 l1_0 l1_1)) else (none))) = some (r1, r2) := by rw [if_neg (show ¬ (false = true) by decide)] at H; exact H
      clear H
      have H := H1
      clear H1
      by_cases c21 : ((rd_T70 l0_2 x2_1).f0) = 3
      ·rw [if_pos c21] at H
       have c21b0 : (((rd_T70 l0_2 x2_1).f0) == 3) = true := beq_iff_eq.mpr c21
       have c21b1 : (((rd_T70 l0_2 x2_1).f0) != 3) = false := bne_eq_false_iff_eq.mpr c21
       clear c21
       replace H := Option.bind_eq_some_iff.mp H
       obtain ⟨t285, A220, H⟩ := H
       replace H : (impl_scene_value.l0 k1 t285 (l0_1.length : Int) (wrap64 (x12_1 + 1)) l0_0 l0_1 l0_2 l1_0 l1_1) = some (r1, r2) := H
       have A22 := am_ A220
       clear A220
       have H' := am_ H
       clear H
       have hnb23 := NB280_281.out
       have hnc23 := NB281_280.out
       have hcz24_0 := cf0 BK280.out
       have hcz24_1 := cf1 BK280.out
       have hcz24_2 := cf2 BK280.out
       have hfz24_0 := blk_frozen BK280.out 0
       have hfz24_1 := blk_frozen BK280.out 1
       have hfz24_2 := blk_frozen BK280.out 2
       have p282 : 0 ≤ (x2_1 : Int) := of_decide_eq_true z39_2
       have q282 : x2_1 < (l0_2.length : Int) := of_decide_eq_true z39_2
       obtain ⟨ad282, e282, hx282_0, hx282_1, hx282_2⟩ := at_T70 HR0_2.out x2_1 p282 q282
       cases e282
       replace hx282_0 := (HB.out.cell (World.block_lt_of_cell? w _ hx282_0)).trans hx282_0
       replace hx282_1 := (HB.out.cell (World.block_lt_of_cell? w _ hx282_1)).trans hx282_1
       replace hx282_2 := (HB.out.cell (World.block_lt_of_cell? w _ hx282_2)).trans hx282_2
       replace p282 := eq_true p282
       replace q282 := eq_true q282
       go_wp2_with (first | ((with_reducible refine gate_dst (N := 8) rfl ?_); refine box_event ?hg (N := 8) ?hd (cs := #[.int .i64 0, .int .i64 0, .int .i64 0]) (t := 70) ?hr ?_; (case hd => rfl); (case hg => rfl); (case hr => first | (go_simp; done) | (go_simp; rfl)); intro gb283 hg w25 hbox hb; have n0_ := am_ (blk_below (bu BK280.out) hb); have n1_ := am_ (blk_below (bu BK281.out) hb); have n2_ := am_ (below_step z39_6 hb); have n3_ := am_ (hbox); have n4_ := am_ (by rw [hg]; exact (below_size z39_6) : w.heap.size ≤ gb283); have n5_ := am_ (by rw [hg]; exact (below_size z39_6) : w.heap.size ≤ gb283); have n6_ := am_ (by rw [hg]; exact Nat.ne_of_lt (blk_lt (bu BK280.out)) : gb280 ≠ gb283); have n7_ := am_ (by rw [hg]; exact Nat.ne_of_gt (blk_lt (bu BK280.out)) : gb283 ≠ gb280); have n8_ := am_ (by rw [hg]; exact Nat.ne_of_lt (blk_lt (bu BK281.out)) : gb281 ≠ gb283); have n9_ := am_ (by rw [hg]; exact Nat.ne_of_gt (blk_lt (bu BK281.out)) : gb283 ≠ gb281); clear BK280 BK281 HB; have BK280 := n0_; have BK281 := n1_; have HB := n2_; have BK283 := n3_; have GW283 := n4_; have GE283 := n5_; have NB280_283 := n6_; have NB283_280 := n7_; have NB281_283 := n8_; have NB283_281 := n9_; clear n0_ n1_ n2_ n3_ n4_ n5_ n6_ n7_ n8_ n9_; clear hb hbox hg; have hnb26 := NB283_280.out; have hnc26 := NB280_283.out; have hnb27 := NB283_281.out; have hnc27 := NB281_283.out; have hcz28_0 := cf0 BK283.out; have hcz28_1 := cf1 BK283.out; have hcz28_2 := cf2 BK283.out; have hfz28_0 := blk_frozen BK283.out 0; have hfz28_1 := blk_frozen BK283.out 1; have hfz28_2 := blk_frozen BK283.out 2) | ((with_reducible refine gate_callee (f := 48) rfl ?_); refine goesL_ (some 26) rfl rfl Try.func48 (by kernel_rfl) rfl #[.agg #[.int .i64 ((rd_T70 l0_2 x2_1).f0), .int .i64 ((rd_T70 l0_2 x2_1).f1), .int .i64 ((rd_T70 l0_2 x2_1).f2)]] rfl (by (try simp only [List.map_toArray, List.map_cons, List.map_nil]); first | done | rfl | (simp only [List.length_drop, List.length_take]; rfl)) ?_; (with_reducible refine (impl_Do_valued.calls ((rd_T70 l0_2 x2_1).f0) ((rd_T70 l0_2 x2_1).f1) ((rd_T70 l0_2 x2_1).f2) false _ A11.out).mono ?_); rintro e w29 ⟨rfl, hb⟩; refine ⟨_, rfl, ?_⟩; replace BK280 := am_ (blk_below (g := gb280) (o := .cells #[.slice A0_0 l0_0.length c0_0, .slice A0_1 l0_1.length c0_1, .slice (some ad282) l0_2.length c0_2] 60 (0, 0)) z39_8 hb); replace BK281 := am_ (blk_below (g := gb281) (o := .cells #[.slice A1_0 l1_0.length c1_0, .slice A1_1 l1_1.length c1_1] 40 (0, 0)) z39_9 hb); replace BK283 := am_ (blk_below (g := gb283) (o := .cells #[.int .i64 ((rd_T70 l0_2 x2_1).f0), .int .i64 ((rd_T70 l0_2 x2_1).f1), .int .i64 ((rd_T70 l0_2 x2_1).f2)] 70 (0, 0)) z39_10 hb); replace HB := am_ (below_step z39_7 hb); (try clear hb); (try clear hb2); (try clear hk); (try clear hi); have hcz30_0 := cf0 BK283.out; have hcz30_1 := cf1 BK283.out; have hcz30_2 := cf2 BK283.out; have hfz30_0 := blk_frozen BK283.out 0; have hfz30_1 := blk_frozen BK283.out 1; have hfz30_2 := blk_frozen BK283.out 2; have hcz31_0 := cf0 BK280.out; have hcz31_1 := cf1 BK280.out; have hcz31_2 := cf2 BK280.out; have hfz31_0 := blk_frozen BK280.out 0; have hfz31_1 := blk_frozen BK280.out 1; have hfz31_2 := blk_frozen BK280.out 2) | ((with_reducible refine gate_callee (f := 49) rfl ?_); refine goesL_ (some 35) rfl rfl Try.func49 (by kernel_rfl) rfl #[.agg #[.slice A0_0 l0_0.length c0_0, .slice A0_1 l0_1.length c0_1, .slice (some ad282) l0_2.length c0_2], .int .i64 x2_1] rfl (by (try simp only [List.map_toArray, List.map_cons, List.map_nil]); first | done | rfl | (simp only [List.length_drop, List.length_take]; rfl)) ?_; (with_reducible refine (impl_scene_lastRead.calls k1 _ _ l0_0 _ _ l0_1 _ _ l0_2 x2_1 t285 _ ?side1 ?side2 ?side3 ?side4 ?side5 ?side6 A22.out).mono ?_); (case side1 => repeat (first | exact (Kd.C_below HR0_0.out HB.out) | (with_reducible refine Kd.C_alloc ?_ _) | (with_reducible refine Kd.C_drewN ?_ _) | (with_reducible refine Kd.C_drew ?_))); (case side2 => exact HC0_0.out); (case side3 => repeat (first | exact (Kd.C_below HR0_1.out HB.out) | (with_reducible refine Kd.C_alloc ?_ _) | (with_reducible refine Kd.C_drewN ?_ _) | (with_reducible refine Kd.C_drew ?_))); (case side4 => exact HC0_1.out); (case side5 => repeat (first | exact (Kd.C_below HR0_2.out HB.out) | (with_reducible refine Kd.C_alloc ?_ _) | (with_reducible refine Kd.C_drewN ?_ _) | (with_reducible refine Kd.C_drew ?_))); (case side6 => exact HC0_2.out); rintro e w32 ⟨rfl, hb⟩; refine ⟨_, rfl, ?_⟩; replace BK280 := am_ (blk_below (bu BK280.out) hb); replace BK281 := am_ (blk_below (bu BK281.out) hb); replace BK283 := am_ (blk_below (bu BK283.out) hb); replace HB := am_ (below_step z39_7 hb); (try clear hb); (try clear hb2); (try clear hk); (try clear hi)))
       go_roundg k1
       case measure => have := HK1.out; omega
       case rel => exact ⟨(t285), (wrap64 (x12_1 + 1)), z39_1, z39_1, H', ⟨by have := HK1.out; omega⟩, ⟨bu BK280.out⟩, ⟨bu BK281.out⟩, ⟨z39_7⟩⟩
      rw [if_neg c21] at H
      have c21b0 : (((rd_T70 l0_2 x2_1).f0) == 3) = false := beq_eq_false_iff_ne.mpr c21
      have c21b1 : (((rd_T70 l0_2 x2_1).f0) != 3) = true := bne_iff_ne.mpr c21
      by_cases c33 : x2_1 < (l1_0.length : Int)
      ·rw [if_pos c33] at H
       have c33b0 : decide (x2_1 < (l1_0.length : Int)) = true := decide_eq_true c33
       clear c33
       by_cases c34 : (rd l1_0 x2_1) = (-1)
       ·rw [if_pos c34] at H
        have c34b0 : ((rd l1_0 x2_1) == (-1)) = true := beq_iff_eq.mpr c34
        have c34b1 : ((rd l1_0 x2_1) != (-1)) = false := bne_eq_false_iff_eq.mpr c34
        clear c34
        simp only [Option.some.injEq, Prod.mk.injEq] at H
        obtain ⟨rfl, rfl⟩ := H
        have hnb35 := NB280_281.out
        have hnc35 := NB281_280.out
        have hcz36_0 := cf0 BK280.out
        have hcz36_1 := cf1 BK280.out
        have hcz36_2 := cf2 BK280.out
        have hfz36_0 := blk_frozen BK280.out 0
        have hfz36_1 := blk_frozen BK280.out 1
        have hfz36_2 := blk_frozen BK280.out 2
        have p282 : 0 ≤ (x2_1 : Int) := of_decide_eq_true z39_2
        have q282 : x2_1 < (l0_2.length : Int) := of_decide_eq_true z39_2
        obtain ⟨ad282, e282, hx282_0, hx282_1, hx282_2⟩ := at_T70 HR0_2.out x2_1 p282 q282
        cases e282
        replace hx282_0 := (HB.out.cell (World.block_lt_of_cell? w _ hx282_0)).trans hx282_0
        replace hx282_1 := (HB.out.cell (World.block_lt_of_cell? w _ hx282_1)).trans hx282_1
        replace hx282_2 := (HB.out.cell (World.block_lt_of_cell? w _ hx282_2)).trans hx282_2
        replace p282 := eq_true p282
        replace q282 := eq_true q282
        go_wp2_with (first | ((with_reducible refine gate_dst (N := 8) rfl ?_); refine box_event ?hg (N := 8) ?hd (cs := #[.int .i64 0, .int .i64 0, .int .i64 0]) (t := 70) ?hr ?_; (case hd => rfl); (case hg => rfl); (case hr => first | (go_simp; done) | (go_simp; rfl)); intro gb283 hg w37 hbox hb; have n0_ := am_ (blk_below (bu BK280.out) hb); have n1_ := am_ (blk_below (bu BK281.out) hb); have n2_ := am_ (below_step z39_6 hb); have n3_ := am_ (hbox); have n4_ := am_ (by rw [hg]; exact (below_size z39_6) : w.heap.size ≤ gb283); have n5_ := am_ (by rw [hg]; exact (below_size z39_6) : w.heap.size ≤ gb283); have n6_ := am_ (by rw [hg]; exact Nat.ne_of_lt (blk_lt (bu BK280.out)) : gb280 ≠ gb283); have n7_ := am_ (by rw [hg]; exact Nat.ne_of_gt (blk_lt (bu BK280.out)) : gb283 ≠ gb280); have n8_ := am_ (by rw [hg]; exact Nat.ne_of_lt (blk_lt (bu BK281.out)) : gb281 ≠ gb283); have n9_ := am_ (by rw [hg]; exact Nat.ne_of_gt (blk_lt (bu BK281.out)) : gb283 ≠ gb281); clear BK280 BK281 HB; have BK280 := n0_; have BK281 := n1_; have HB := n2_; have BK283 := n3_; have GW283 := n4_; have GE283 := n5_; have NB280_283 := n6_; have NB283_280 := n7_; have NB281_283 := n8_; have NB283_281 := n9_; clear n0_ n1_ n2_ n3_ n4_ n5_ n6_ n7_ n8_ n9_; clear hb hbox hg; have hnb38 := NB283_280.out; have hnc38 := NB280_283.out; have hnb39 := NB283_281.out; have hnc39 := NB281_283.out; have hcz40_0 := cf0 BK283.out; have hcz40_1 := cf1 BK283.out; have hcz40_2 := cf2 BK283.out; have hfz40_0 := blk_frozen BK283.out 0; have hfz40_1 := blk_frozen BK283.out 1; have hfz40_2 := blk_frozen BK283.out 2) | ((with_reducible refine gate_callee (f := 48) rfl ?_); refine goesL_ (some 26) rfl rfl Try.func48 (by kernel_rfl) rfl #[.agg #[.int .i64 ((rd_T70 l0_2 x2_1).f0), .int .i64 ((rd_T70 l0_2 x2_1).f1), .int .i64 ((rd_T70 l0_2 x2_1).f2)]] rfl (by (try simp only [List.map_toArray, List.map_cons, List.map_nil]); first | done | rfl | (simp only [List.length_drop, List.length_take]; rfl)) ?_; (with_reducible refine (impl_Do_valued.calls ((rd_T70 l0_2 x2_1).f0) ((rd_T70 l0_2 x2_1).f1) ((rd_T70 l0_2 x2_1).f2) false _ A11.out).mono ?_); rintro e w41 ⟨rfl, hb⟩; refine ⟨_, rfl, ?_⟩; replace BK280 := am_ (blk_below (g := gb280) (o := .cells #[.slice A0_0 l0_0.length c0_0, .slice A0_1 l0_1.length c0_1, .slice (some ad282) l0_2.length c0_2] 60 (0, 0)) z39_8 hb); replace BK281 := am_ (blk_below (g := gb281) (o := .cells #[.slice A1_0 l1_0.length c1_0, .slice A1_1 l1_1.length c1_1] 40 (0, 0)) z39_9 hb); replace BK283 := am_ (blk_below (g := gb283) (o := .cells #[.int .i64 ((rd_T70 l0_2 x2_1).f0), .int .i64 ((rd_T70 l0_2 x2_1).f1), .int .i64 ((rd_T70 l0_2 x2_1).f2)] 70 (0, 0)) z39_10 hb); replace HB := am_ (below_step z39_7 hb); (try clear hb); (try clear hb2); (try clear hk); (try clear hi); have hcz42_0 := cf0 BK283.out; have hcz42_1 := cf1 BK283.out; have hcz42_2 := cf2 BK283.out; have hfz42_0 := blk_frozen BK283.out 0; have hfz42_1 := blk_frozen BK283.out 1; have hfz42_2 := blk_frozen BK283.out 2; have hcz43_0 := cf0 BK281.out; have hcz43_1 := cf1 BK281.out; have hfz43_0 := blk_frozen BK281.out 0; have hfz43_1 := blk_frozen BK281.out 1; have p286 : 0 ≤ (x2_1 : Int) := of_decide_eq_true z39_2; have q286 : x2_1 < (l1_0.length : Int) := of_decide_eq_true z39_2; obtain ⟨ad286, e286, hx286_0⟩ := Kd.at_int HR1_0.out x2_1 p286 q286; cases e286; replace hx286_0 := (HB.out.cell (World.block_lt_of_cell? w _ hx286_0)).trans hx286_0; replace p286 := eq_true p286; replace q286 := eq_true q286))
        go_ret2
        exact ⟨z39_3, z39_7⟩
       rw [if_neg c34] at H
       have c34b0 : ((rd l1_0 x2_1) == (-1)) = false := beq_eq_false_iff_ne.mpr c34
       have c34b1 : ((rd l1_0 x2_1) != (-1)) = true := bne_iff_ne.mpr c34
       have H' := am_ H
       clear H
       have hnb44 := NB280_281.out
       have hnc44 := NB281_280.out
       have hcz45_0 := cf0 BK280.out
       have hcz45_1 := cf1 BK280.out
       have hcz45_2 := cf2 BK280.out
       have hfz45_0 := blk_frozen BK280.out 0
       have hfz45_1 := blk_frozen BK280.out 1
       have hfz45_2 := blk_frozen BK280.out 2
       have p282 : 0 ≤ (x2_1 : Int) := of_decide_eq_true z39_2
       have q282 : x2_1 < (l0_2.length : Int) := of_decide_eq_true z39_2
       obtain ⟨ad282, e282, hx282_0, hx282_1, hx282_2⟩ := at_T70 HR0_2.out x2_1 p282 q282
       cases e282
       replace hx282_0 := (HB.out.cell (World.block_lt_of_cell? w _ hx282_0)).trans hx282_0
       replace hx282_1 := (HB.out.cell (World.block_lt_of_cell? w _ hx282_1)).trans hx282_1
       replace hx282_2 := (HB.out.cell (World.block_lt_of_cell? w _ hx282_2)).trans hx282_2
       replace p282 := eq_true p282
       replace q282 := eq_true q282
       go_wp2_with (first | ((with_reducible refine gate_dst (N := 8) rfl ?_); refine box_event ?hg (N := 8) ?hd (cs := #[.int .i64 0, .int .i64 0, .int .i64 0]) (t := 70) ?hr ?_; (case hd => rfl); (case hg => rfl); (case hr => first | (go_simp; done) | (go_simp; rfl)); intro gb283 hg w46 hbox hb; have n0_ := am_ (blk_below (bu BK280.out) hb); have n1_ := am_ (blk_below (bu BK281.out) hb); have n2_ := am_ (below_step z39_6 hb); have n3_ := am_ (hbox); have n4_ := am_ (by rw [hg]; exact (below_size z39_6) : w.heap.size ≤ gb283); have n5_ := am_ (by rw [hg]; exact (below_size z39_6) : w.heap.size ≤ gb283); have n6_ := am_ (by rw [hg]; exact Nat.ne_of_lt (blk_lt (bu BK280.out)) : gb280 ≠ gb283); have n7_ := am_ (by rw [hg]; exact Nat.ne_of_gt (blk_lt (bu BK280.out)) : gb283 ≠ gb280); have n8_ := am_ (by rw [hg]; exact Nat.ne_of_lt (blk_lt (bu BK281.out)) : gb281 ≠ gb283); have n9_ := am_ (by rw [hg]; exact Nat.ne_of_gt (blk_lt (bu BK281.out)) : gb283 ≠ gb281); clear BK280 BK281 HB; have BK280 := n0_; have BK281 := n1_; have HB := n2_; have BK283 := n3_; have GW283 := n4_; have GE283 := n5_; have NB280_283 := n6_; have NB283_280 := n7_; have NB281_283 := n8_; have NB283_281 := n9_; clear n0_ n1_ n2_ n3_ n4_ n5_ n6_ n7_ n8_ n9_; clear hb hbox hg; have hnb47 := NB283_280.out; have hnc47 := NB280_283.out; have hnb48 := NB283_281.out; have hnc48 := NB281_283.out; have hcz49_0 := cf0 BK283.out; have hcz49_1 := cf1 BK283.out; have hcz49_2 := cf2 BK283.out; have hfz49_0 := blk_frozen BK283.out 0; have hfz49_1 := blk_frozen BK283.out 1; have hfz49_2 := blk_frozen BK283.out 2) | ((with_reducible refine gate_callee (f := 48) rfl ?_); refine goesL_ (some 26) rfl rfl Try.func48 (by kernel_rfl) rfl #[.agg #[.int .i64 ((rd_T70 l0_2 x2_1).f0), .int .i64 ((rd_T70 l0_2 x2_1).f1), .int .i64 ((rd_T70 l0_2 x2_1).f2)]] rfl (by (try simp only [List.map_toArray, List.map_cons, List.map_nil]); first | done | rfl | (simp only [List.length_drop, List.length_take]; rfl)) ?_; (with_reducible refine (impl_Do_valued.calls ((rd_T70 l0_2 x2_1).f0) ((rd_T70 l0_2 x2_1).f1) ((rd_T70 l0_2 x2_1).f2) false _ A11.out).mono ?_); rintro e w50 ⟨rfl, hb⟩; refine ⟨_, rfl, ?_⟩; replace BK280 := am_ (blk_below (g := gb280) (o := .cells #[.slice A0_0 l0_0.length c0_0, .slice A0_1 l0_1.length c0_1, .slice (some ad282) l0_2.length c0_2] 60 (0, 0)) z39_8 hb); replace BK281 := am_ (blk_below (g := gb281) (o := .cells #[.slice A1_0 l1_0.length c1_0, .slice A1_1 l1_1.length c1_1] 40 (0, 0)) z39_9 hb); replace BK283 := am_ (blk_below (g := gb283) (o := .cells #[.int .i64 ((rd_T70 l0_2 x2_1).f0), .int .i64 ((rd_T70 l0_2 x2_1).f1), .int .i64 ((rd_T70 l0_2 x2_1).f2)] 70 (0, 0)) z39_10 hb); replace HB := am_ (below_step z39_7 hb); (try clear hb); (try clear hb2); (try clear hk); (try clear hi); have hcz51_0 := cf0 BK283.out; have hcz51_1 := cf1 BK283.out; have hcz51_2 := cf2 BK283.out; have hfz51_0 := blk_frozen BK283.out 0; have hfz51_1 := blk_frozen BK283.out 1; have hfz51_2 := blk_frozen BK283.out 2; have hcz52_0 := cf0 BK281.out; have hcz52_1 := cf1 BK281.out; have hfz52_0 := blk_frozen BK281.out 0; have hfz52_1 := blk_frozen BK281.out 1; have p286 : 0 ≤ (x2_1 : Int) := of_decide_eq_true z39_2; have q286 : x2_1 < (l1_0.length : Int) := of_decide_eq_true z39_2; obtain ⟨ad286, e286, hx286_0⟩ := Kd.at_int HR1_0.out x2_1 p286 q286; cases e286; replace hx286_0 := (HB.out.cell (World.block_lt_of_cell? w _ hx286_0)).trans hx286_0; replace p286 := eq_true p286; replace q286 := eq_true q286; have p287 : 0 ≤ (x2_1 : Int) := of_decide_eq_true z39_2; have q287 : x2_1 < (l1_0.length : Int) := of_decide_eq_true z39_2; obtain ⟨ad287, e287, hx287_0⟩ := Kd.at_int HR1_0.out x2_1 p287 q287; obtain rfl : ad286 = ad287 := (by injection e287); replace hx287_0 := (HB.out.cell (World.block_lt_of_cell? w _ hx287_0)).trans hx287_0; replace p287 := eq_true p287; replace q287 := eq_true q287))
       go_roundg k1
       case measure => have := HK1.out; omega
       case rel => exact ⟨(rd l1_0 x2_1), (wrap64 (x12_1 + 1)), z39_1, z39_1, H', ⟨by have := HK1.out; omega⟩, ⟨bu BK280.out⟩, ⟨bu BK281.out⟩, ⟨z39_7⟩⟩
      rw [if_neg c33] at H
      exact absurd H (by simp)
     rw [if_neg c10] at H
     exact absurd H (by simp)
    rw [if_neg c9] at H
    exact absurd H (by simp)
   rw [if_neg c8] at H
   have c8b0 : decide (x12_1 < (l0_1.length : Int)) = false := decide_eq_false c8
   clear c8
   simp only [Option.some.injEq, Prod.mk.injEq] at H
   obtain ⟨rfl, rfl⟩ := H
   go_wp2
   go_ret2
   exact ⟨z39_3, z39_6⟩

end Go.Proofs.Ytmkchdlkpbnldaa.PB

namespace Go.Proofs.Ytmkchdlkpbnldaa.PB
open Go.RowKit Go.Proofs.YtmkchdlkpbnldaaW.PrintWords Go.Proofs.YtmkchdlkpbnldaaW.PrintLast Go.Proofs.YtmkchdlkpbnldaaW.PrintMore
attribute [local go_sem] max2_int min2_int max_two min_two max_three min_three max_four min_four   -- for this text's walks alone
open Go.Proofs.YtmkchdlkpbnldaaMine
set_option linter.unusedVariables false
set_option linter.unusedSimpArgs false

theorem z56_1 {p : Prop} (h : p := by first | rfl | (simp; done) | (simp [*]; done)) : p := h
theorem z56_2 {p : Prop} (h : p := by first | (with_reducible assumption) | assumption) : p := h
theorem z56_3 {p : Prop} (h : p := by repeat (first | exact Drawn0.refl _ | apply Drawn0.step)) : p := h
/-! ### slices_Index_int_int: function 56 -/
def slices_Index_int_int.l0 : Nat → List Int → Int → Int → Int → Option (Int)
  | 0, _, _, _, _ => none
  | k + 1, x0, x1, x7, x8 => if x8 < x7 then (if 0 ≤ x8 then (if x8 < (x0.length : Int) then (if x1 = (rd x0 x8) then (some x8) else (slices_Index_int_int.l0 k x0 x1 x7 (wrap64 (x8 + 1)))) else (none)) else (none)) else (some (-1))
def slices_Index_int_int.f (k : Nat) (l0 : List Int) (a1 : Int) : Option (Int) := slices_Index_int_int.l0 k l0 a1 (l0.length : Int) 0
set_option maxHeartbeats 8000000 in
set_option maxRecDepth 100000 in
theorem slices_Index_int_int.calls (k : Nat) (A0 : Option Addr) (c0 : Nat) (l0 : List Int) (a1 : Int) (r : Int) (w : World) (hr0 : Kd.C (Kd.int .i64) w A0 l0.length l0) (hc0 : l0.length ≤ c0) (h : slices_Index_int_int.f k l0 a1 = some r) :
  Calls Try.prog 56 #[.slice A0 l0.length c0, .int .i64 a1] w fun e w' => e = .returned (.int .i64 r) ∧ Drawn0 w w' := by
 have HR0 := am_ hr0
 have HC0 := am_ hc0
 clear hr0 hc0
 have H : (slices_Index_int_int.l0 k l0 a1 (l0.length : Int) 0) = some r := h
 clear h
 have H' := am_ H
 clear H
 go_enter Try.func56, Try.ntmps56
 go_wp2
 go_loopg [8] k (fun kq v8 w' => ∃ (x8_1 : Int), v8 = .int .i64 x8_1 ∧ Aside0 (slices_Index_int_int.l0 kq l0 a1 (l0.length : Int) x8_1 = some r) ∧ Aside0 (kq ≤ k) ∧ Drawn0 w w')
 case atStart => exact ⟨(0), z56_1, H', ⟨Nat.le_refl _⟩, z56_3⟩
 case round =>
  clear H'
  obtain ⟨x8_1, rfl, HA, HK1, ⟨m1, rfl⟩⟩ := hrel
  cases gk with
  | zero => exact absurd HA.out (by simp [slices_Index_int_int.l0])
  | succ k1 =>
   have H := HA.out
   clear HA
   simp only [slices_Index_int_int.l0] at H
   by_cases c3 : x8_1 < (l0.length : Int)
   ·rw [if_pos c3] at H
    have c3b0 : decide (x8_1 < (l0.length : Int)) = true := decide_eq_true c3
    clear c3
    by_cases c4 : 0 ≤ x8_1
    ·rw [if_pos c4] at H
     have c4b0 : decide (0 ≤ x8_1) = true := decide_eq_true c4
     clear c4
     by_cases c5 : x8_1 < (l0.length : Int)
     ·rw [if_pos c5] at H
      have c5b0 : decide (x8_1 < (l0.length : Int)) = true := decide_eq_true c5
      clear c5
      by_cases c6 : a1 = (rd l0 x8_1)
      ·rw [if_pos c6] at H
       have c6b0 : (a1 == (rd l0 x8_1)) = true := beq_iff_eq.mpr c6
       have c6b1 : (a1 != (rd l0 x8_1)) = false := bne_eq_false_iff_eq.mpr c6
       clear c6
       obtain rfl := Option.some.inj H
       have p288 : 0 ≤ (x8_1 : Int) := of_decide_eq_true z56_2
       have q288 : x8_1 < (l0.length : Int) := of_decide_eq_true z56_2
       obtain ⟨ad288, e288, hx288_0⟩ := Kd.at_int HR0.out x8_1 p288 q288
       cases e288
       replace p288 := eq_true p288
       replace q288 := eq_true q288
       go_wp2
       go_ret
       exact ⟨z56_1, z56_3⟩
      rw [if_neg c6] at H
      have c6b0 : (a1 == (rd l0 x8_1)) = false := beq_eq_false_iff_ne.mpr c6
      have c6b1 : (a1 != (rd l0 x8_1)) = true := bne_iff_ne.mpr c6
      have H' := am_ H
      clear H
      have p288 : 0 ≤ (x8_1 : Int) := of_decide_eq_true z56_2
      have q288 : x8_1 < (l0.length : Int) := of_decide_eq_true z56_2
      obtain ⟨ad288, e288, hx288_0⟩ := Kd.at_int HR0.out x8_1 p288 q288
      cases e288
      replace p288 := eq_true p288
      replace q288 := eq_true q288
      go_wp2
      go_roundg k1
      case measure => have := HK1.out; omega
      case rel => exact ⟨(wrap64 (x8_1 + 1)), z56_1, H', ⟨by have := HK1.out; omega⟩, z56_3⟩
     rw [if_neg c5] at H
     exact absurd H (by simp)
    rw [if_neg c4] at H
    exact absurd H (by simp)
   rw [if_neg c3] at H
   have c3b0 : decide (x8_1 < (l0.length : Int)) = false := decide_eq_false c3
   clear c3
   obtain rfl := Option.some.inj H
   go_wp2
   go_ret
   exact ⟨z56_1, z56_3⟩

end Go.Proofs.Ytmkchdlkpbnldaa.PB

namespace Go.Proofs.Ytmkchdlkpbnldaa.PB
open Go.RowKit Go.Proofs.YtmkchdlkpbnldaaW.PrintWords Go.Proofs.YtmkchdlkpbnldaaW.PrintLast Go.Proofs.YtmkchdlkpbnldaaW.PrintMore
attribute [local go_sem] max2_int min2_int max_two min_two max_three min_three max_four min_four   -- for this text's walks alone
open Go.Proofs.YtmkchdlkpbnldaaMine
set_option linter.unusedVariables false
set_option linter.unusedSimpArgs false

/-! ### slices_Contains_int_int: function 52 -/
def slices_Contains_int_int.f (k : Nat) (l0 : List Int) (a1 : Int) : Option (Bool) := (slices_Index_int_int.f k l0 a1).bind fun t289 => (some (decide (t289 ≥ 0)))
set_option maxHeartbeats 8000000 in
set_option maxRecDepth 100000 in
theorem slices_Contains_int_int.calls (k : Nat) (A0 : Option Addr) (c0 : Nat) (l0 : List Int) (a1 : Int) (r : Bool) (w : World) (hr0 : Kd.C (Kd.int .i64) w A0 l0.length l0) (hc0 : l0.length ≤ c0) (h : slices_Contains_int_int.f k l0 a1 = some r) :
  Calls Try.prog 52 #[.slice A0 l0.length c0, .int .i64 a1] w fun e w' => e = .returned (.bool r) ∧ Drawn0 w w' := by
 have HR0 := am_ hr0
 have HC0 := am_ hc0
 clear hr0 hc0
 have H : ((slices_Index_int_int.f k l0 a1).bind fun t289 => (some (decide (t289 ≥ 0)))) = some r := h
 clear h
 replace H := Option.bind_eq_some_iff.mp H
 obtain ⟨t289, A30, H⟩ := H
 replace H : (some (decide (t289 ≥ 0))) = some r := H
 have A3 := am_ A30
 clear A30
 obtain rfl := Option.some.inj H
 go_enter Try.func52, Try.ntmps52
 go_wp2_with (first | ((with_reducible refine gate_callee (f := 56) rfl ?_); refine goesL_ (some 7) rfl rfl Try.func56 (by kernel_rfl) rfl #[.slice A0 l0.length c0, .int .i64 a1] rfl (by (try simp only [List.map_toArray, List.map_cons, List.map_nil]); first | done | rfl | (simp only [List.length_drop, List.length_take]; rfl)) ?_; (with_reducible refine (slices_Index_int_int.calls k _ _ l0 a1 t289 _ ?side1 ?side2 A3.out).mono ?_); (case side1 => repeat (first | exact HR0.out | (with_reducible refine Kd.C_alloc ?_ _) | (with_reducible refine Kd.C_drewN ?_ _) | (with_reducible refine Kd.C_drew ?_))); (case side2 => exact HC0.out); rintro e w' ⟨rfl, ⟨nd, rfl⟩⟩; refine ⟨_, rfl, ?_⟩))
 go_ret
 exact ⟨by first | rfl | (simp; done) | (simp [*]; done), by repeat (first | exact Drawn0.refl _ | apply Drawn0.step)⟩

end Go.Proofs.Ytmkchdlkpbnldaa.PB

namespace Go.Proofs.Ytmkchdlkpbnldaa.PB
open Go.RowKit Go.Proofs.YtmkchdlkpbnldaaW.PrintWords Go.Proofs.YtmkchdlkpbnldaaW.PrintLast Go.Proofs.YtmkchdlkpbnldaaW.PrintMore
attribute [local go_sem] max2_int min2_int max_two min_two max_three min_three max_four min_four   -- for this text's walks alone
open Go.Proofs.YtmkchdlkpbnldaaMine
set_option linter.unusedVariables false
set_option linter.unusedSimpArgs false

theorem z53_1 {p : Prop} (h : p := by first | rfl | (simp; done) | (simp [*]; done)) : p := h
theorem z53_2 {p : Prop} (h : p := by first | (with_reducible assumption) | assumption) : p := h
theorem z53_3 {p : Prop} (h : p := by repeat (first | exact Drawn0.refl _ | apply Drawn0.step)) : p := h
/-! ### slices_Equal_int_int: function 53 -/
def slices_Equal_int_int.l0 : Nat → List Int → List Int → Int → Int → Option (Bool)
  | 0, _, _, _, _ => none
  | k + 1, x0, x1, x12, x13 => if x13 < x12 then (if 0 ≤ x13 then (if x13 < (x0.length : Int) then (if x13 < (x1.length : Int) then (if (rd x0 x13) = (rd x1 x13) then (slices_Equal_int_int.l0 k x0 x1 x12 (wrap64 (x13 + 1))) else (some false)) else (none)) else (none)) else (none)) else (some true)
def slices_Equal_int_int.f (k : Nat) (l0 : List Int) (l1 : List Int) : Option (Bool) := if (l0.length : Int) = (l1.length : Int) then (slices_Equal_int_int.l0 k l0 l1 (l0.length : Int) 0) else (some false)
set_option maxHeartbeats 8000000 in
set_option maxRecDepth 100000 in
theorem slices_Equal_int_int.calls (k : Nat) (A0 : Option Addr) (c0 : Nat) (l0 : List Int) (A1 : Option Addr) (c1 : Nat) (l1 : List Int) (r : Bool) (w : World) (hr0 : Kd.C (Kd.int .i64) w A0 l0.length l0) (hc0 : l0.length ≤ c0) (hr1 : Kd.C (Kd.int .i64) w A1 l1.length l1) (hc1 : l1.length ≤ c1) (h : slices_Equal_int_int.f k l0 l1 = some r) :
  Calls Try.prog 53 #[.slice A0 l0.length c0, .slice A1 l1.length c1] w fun e w' => e = .returned (.bool r) ∧ Drawn0 w w' := by
 have HR0 := am_ hr0
 have HC0 := am_ hc0
 clear hr0 hc0
 have HR1 := am_ hr1
 have HC1 := am_ hc1
 clear hr1 hc1
 have H : (if (l0.length : Int) = (l1.length : Int) then (slices_Equal_int_int.l0 k l0 l1 (l0.length : Int) 0) else (some false)) = some r := h
 clear h
 by_cases c3 : (l0.length : Int) = (l1.length : Int)
 ·rw [if_pos c3] at H
  have c3b0 : ((l0.length : Int) == (l1.length : Int)) = true := beq_iff_eq.mpr c3
  have c3b1 : ((l0.length : Int) != (l1.length : Int)) = false := bne_eq_false_iff_eq.mpr c3
  have c3b2 : (l0.length == l1.length) = true := by first | simpa using c3 | (simp at c3 ⊢; omega)
  clear c3
  have H' := am_ H
  clear H
  go_enter Try.func53, Try.ntmps53
  go_wp2
  repeat (go_quiet (fail); try go_wp2)
  go_loopg [13] k (fun kq v13 w' => ∃ (x13_1 : Int), v13 = .int .i64 x13_1 ∧ Aside0 (slices_Equal_int_int.l0 kq l0 l1 (l0.length : Int) x13_1 = some r) ∧ Aside0 (kq ≤ k) ∧ Drawn0 w w')
  case atStart => exact ⟨(0), z53_1, H', ⟨Nat.le_refl _⟩, z53_3⟩
  case round =>
   clear H'
   obtain ⟨x13_1, rfl, HA, HK1, ⟨m1, rfl⟩⟩ := hrel
   cases gk with
   | zero => exact absurd HA.out (by simp [slices_Equal_int_int.l0])
   | succ k1 =>
    have H := HA.out
    clear HA
    simp only [slices_Equal_int_int.l0] at H
    by_cases c4 : x13_1 < (l0.length : Int)
    ·rw [if_pos c4] at H
     have c4b0 : decide (x13_1 < (l0.length : Int)) = true := decide_eq_true c4
     clear c4
     by_cases c5 : 0 ≤ x13_1
     ·rw [if_pos c5] at H
      have c5b0 : decide (0 ≤ x13_1) = true := decide_eq_true c5
      clear c5
      by_cases c6 : x13_1 < (l0.length : Int)
      ·rw [if_pos c6] at H
       have c6b0 : decide (x13_1 < (l0.length : Int)) = true := decide_eq_true c6
       clear c6
       by_cases c7 : x13_1 < (l1.length : Int)
       ·rw [if_pos c7] at H
        have c7b0 : decide (x13_1 < (l1.length : Int)) = true := decide_eq_true c7
        clear c7
        by_cases c8 : (rd l0 x13_1) = (rd l1 x13_1)
        ·rw [if_pos c8] at H
         have c8b0 : ((rd l0 x13_1) == (rd l1 x13_1)) = true := beq_iff_eq.mpr c8
         have c8b1 : ((rd l0 x13_1) != (rd l1 x13_1)) = false := bne_eq_false_iff_eq.mpr c8
         clear c8
         have H' := am_ H
         clear H
         have p290 : 0 ≤ (x13_1 : Int) := of_decide_eq_true z53_2
         have q290 : x13_1 < (l0.length : Int) := of_decide_eq_true z53_2
         obtain ⟨ad290, e290, hx290_0⟩ := Kd.at_int HR0.out x13_1 p290 q290
         cases e290
         replace p290 := eq_true p290
         replace q290 := eq_true q290
         have p291 : 0 ≤ (x13_1 : Int) := of_decide_eq_true z53_2
         have q291 : x13_1 < (l1.length : Int) := of_decide_eq_true z53_2
         obtain ⟨ad291, e291, hx291_0⟩ := Kd.at_int HR1.out x13_1 p291 q291
         cases e291
         replace p291 := eq_true p291
         replace q291 := eq_true q291
         go_wp2
         repeat (go_quiet (fail); try go_wp2)
         go_roundg k1
         case measure => have := HK1.out; omega
         case rel => exact ⟨(wrap64 (x13_1 + 1)), z53_1, H', ⟨by have := HK1.out; omega⟩, z53_3⟩
        rw [if_neg c8] at H
        have c8b0 : ((rd l0 x13_1) == (rd l1 x13_1)) = false := beq_eq_false_iff_ne.mpr c8
        have c8b1 : ((rd l0 x13_1) != (rd l1 x13_1)) = true := bne_iff_ne.mpr c8
        obtain rfl := Option.some.inj H
        have p290 : 0 ≤ (x13_1 : Int) := of_decide_eq_true z53_2
        have q290 : x13_1 < (l0.length : Int) := of_decide_eq_true z53_2
        obtain ⟨ad290, e290, hx290_0⟩ := Kd.at_int HR0.out x13_1 p290 q290
        cases e290
        replace p290 := eq_true p290
        replace q290 := eq_true q290
        have p291 : 0 ≤ (x13_1 : Int) := of_decide_eq_true z53_2
        have q291 : x13_1 < (l1.length : Int) := of_decide_eq_true z53_2
        obtain ⟨ad291, e291, hx291_0⟩ := Kd.at_int HR1.out x13_1 p291 q291
        cases e291
        replace p291 := eq_true p291
        replace q291 := eq_true q291
        go_wp2
        repeat (go_quiet (fail); try go_wp2)
        go_ret
        exact ⟨z53_1, z53_3⟩
       rw [if_neg c7] at H
       exact absurd H (by simp)
      rw [if_neg c6] at H
      exact absurd H (by simp)
     rw [if_neg c5] at H
     exact absurd H (by simp)
    rw [if_neg c4] at H
    have c4b0 : decide (x13_1 < (l0.length : Int)) = false := decide_eq_false c4
    clear c4
    obtain rfl := Option.some.inj H
    go_wp2
    repeat (go_quiet (fail); try go_wp2)
    go_ret
    exact ⟨z53_1, z53_3⟩
 rw [if_neg c3] at H
 have c3b0 : ((l0.length : Int) == (l1.length : Int)) = false := beq_eq_false_iff_ne.mpr c3
 have c3b1 : ((l0.length : Int) != (l1.length : Int)) = true := bne_iff_ne.mpr c3
 have c3b2 : (l0.length == l1.length) = false := by first | simpa using c3 | (simp at c3 ⊢; omega)
 obtain rfl := Option.some.inj H
 go_enter Try.func53, Try.ntmps53
 go_wp2
 repeat (go_quiet (fail); try go_wp2)
 go_ret
 exact ⟨z53_1, z53_3⟩

end Go.Proofs.Ytmkchdlkpbnldaa.PB

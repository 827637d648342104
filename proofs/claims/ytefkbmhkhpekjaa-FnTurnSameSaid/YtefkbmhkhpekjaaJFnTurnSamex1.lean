-- Joined by wip/mclaim.py out of YtefkbmhkhpekjaaPBx48, YtefkbmhkhpekjaaPBx70, YtefkbmhkhpekjaaPBx71, YtefkbmhkhpekjaaPBx121, YtefkbmhkhpekjaaPBx86, YtefkbmhkhpekjaaPBx134, YtefkbmhkhpekjaaPBx135, YtefkbmhkhpekjaaPBx136
import Derived.Test.YtefkbmhkhpekjaaPBx0
import Derived.Test.YtefkbmhkhpekjaaJFnTurnSamex2
import Derived.Test.YtefkbmhkhpekjaaPBx78
import Derived.Test.YtefkbmhkhpekjaaPBx87
import Derived.Test.YtefkbmhkhpekjaaPBx88
namespace Go.Proofs.Ytefkbmhkhpekjaa.PB
open Go.RowKit Go.Proofs.YtefkbmhkhpekjaaW.PrintWords Go.Proofs.YtefkbmhkhpekjaaW.PrintLast Go.Proofs.YtefkbmhkhpekjaaW.PrintMore
attribute [local go_sem] max2_int min2_int max_two min_two max_three min_three max_four min_four   -- for this text's walks alone
open Go.Proofs.YtefkbmhkhpekjaaMine
set_option linter.unusedVariables false
set_option linter.unusedSimpArgs false

/-! ### impl_TurnPlaces: function 48 -/
def placesF (row : List Int) (d : S85) : Option S85 := (impl_Do_uses.f d.f0 d.f1 d.f2).bind fun u => if u = true then (if 0 ≤ d.f1 ∧ d.f1 < (row.length : Int) then some ⟨d.f0, rd row d.f1, d.f2⟩ else none) else some d
set_option maxRecDepth 100000 in
set_option maxHeartbeats 4000000 in
theorem impl_TurnPlaces.closure (w : World) (d r : S85) (row : List Int) (A : Option Addr) (c : Nat) (gr : Nat) (hm : w.heap[gr]? = some (.cells #[.slice A row.length c] 22 (0, 0))) (hC : Kd.C (Kd.int .i64) w A row.length row) (h : placesF row d = some r) :
    Calls Try.prog 99 #[.agg #[.int .i64 d.f0, .int .i64 d.f1, .int .i64 d.f2], .pointer (some ⟨gr, 0, none⟩)] w fun e w' => e = .returned (.agg #[.int .i64 r.f0, .int .i64 r.f1, .int .i64 r.f2]) ∧ Below w.heap.size w w' := by
  unfold placesF at h
  obtain ⟨u, hu, h⟩ := Option.bind_eq_some_iff.mp h
  have HU := am_ hu
  have HH := am_ h
  have HM := am_ hm
  have HC := am_ hC
  have hgr : gr < w.heap.size := blk_lt hm
  clear hu h hm hC
  go_enter Try.func99, Try.ntmps99
  go_wp2_with (go_at_call 78; refine park ?_)
  refine ⟨?_⟩
  refine (impl_Do_uses.calls d.f0 d.f1 d.f2 u _ HU.out).mono ?_
  rintro e W1 ⟨rfl, hb⟩
  have BX := am_ (blk_below (blk_alloc (heap_alloc_new w (Obj.cells #[.int .i64 d.f0, .int .i64 d.f1, .int .i64 d.f2] 85)) (Obj.cells #[.int .i64 0, .int .i64 0, .int .i64 0] 85)) hb)
  have BR := am_ (blk_below (heap_alloc_new (w.alloc (Obj.cells #[.int .i64 d.f0, .int .i64 d.f1, .int .i64 d.f2] 85)) (Obj.cells #[.int .i64 0, .int .i64 0, .int .i64 0] 85)) hb)
  have BM := am_ (blk_below (blk_alloc (blk_alloc HM.out (Obj.cells #[.int .i64 d.f0, .int .i64 d.f1, .int .i64 d.f2] 85)) (Obj.cells #[.int .i64 0, .int .i64 0, .int .i64 0] 85)) hb)
  have HC1 := am_ (Kd.C_below (Kd.C_alloc (Kd.C_alloc HC.out (Obj.cells #[.int .i64 d.f0, .int .i64 d.f1, .int .i64 d.f2] 85)) (Obj.cells #[.int .i64 0, .int .i64 0, .int .i64 0] 85)) hb)
  have HB1 := am_ (below_then (below_alloc (below_alloc (Below.refl w.heap.size w) (Obj.cells #[.int .i64 d.f0, .int .i64 d.f1, .int .i64 d.f2] 85)) (Obj.cells #[.int .i64 0, .int .i64 0, .int .i64 0] 85)) (below_alloc (below_alloc (Below.refl w.heap.size w) (Obj.cells #[.int .i64 d.f0, .int .i64 d.f1, .int .i64 d.f2] 85)) (Obj.cells #[.int .i64 0, .int .i64 0, .int .i64 0] 85)).size hb)
  rw [World.size_alloc] at BR
  clear hb HM HC HU
  have hx0 : W1.cell? ⟨w.heap.size, 0, none⟩ = some (.int .i64 d.f0) := (blk_cell BX.out 0).trans rfl
  have hx1 : W1.cell? ⟨w.heap.size, 1, none⟩ = some (.int .i64 d.f1) := (blk_cell BX.out 1).trans rfl
  have hx2 : W1.cell? ⟨w.heap.size, 2, none⟩ = some (.int .i64 d.f2) := (blk_cell BX.out 2).trans rfl
  have hf1 := blk_frozen BX.out 1
  have hz0 : W1.cell? ⟨w.heap.size + 1, 0, none⟩ = some (.int .i64 0) := (blk_cell BR.out 0).trans rfl
  have hz1 : W1.cell? ⟨w.heap.size + 1, 1, none⟩ = some (.int .i64 0) := (blk_cell BR.out 1).trans rfl
  have hz2 : W1.cell? ⟨w.heap.size + 1, 2, none⟩ = some (.int .i64 0) := (blk_cell BR.out 2).trans rfl
  have hr0 := blk_frozen BR.out 0
  have hr1 := blk_frozen BR.out 1
  have hr2 := blk_frozen BR.out 2
  cases u
  · obtain rfl : d = r := Option.some.inj HH.out
    go_wp2_with fail
    refine bodyPost_ret (results_cell_row rfl _ _ (w.heap.size + 1) 85 #[.int .i64 d.f0, .int .i64 d.f1, .int .i64 d.f2] (0, 0) _ rfl (blk_set (blk_set (blk_set BR.out 0 _) 1 _) 2 _) Try.underlying85 rfl (by kernel_rfl)) rfl ?_
    exact ⟨rfl, below_set (below_set (below_set HB1.out (by omega)) (by omega)) (by omega)⟩
  · have h := HH.out
    rw [if_pos rfl] at h
    split at h
    rotate_left
    · cases h
    rename_i hin
    obtain ⟨h0, h1⟩ := hin
    obtain rfl := Option.some.inj h
    obtain ⟨ad, rfl, hx⟩ := Kd.at_int HC1.out d.f1 h0 h1
    have hcr : W1.cell? ⟨gr, 0, none⟩ = some (.slice (some ad) row.length c) := (blk_cell BM.out 0).trans rfl
    have b0 := decide_eq_true h0
    have b1 := decide_eq_true h1
    go_wp2_with fail
    refine bodyPost_ret (results_cell_row rfl _ _ (w.heap.size + 1) 85 #[.int .i64 d.f0, .int .i64 (rd row d.f1), .int .i64 d.f2] (0, 0) _ rfl (blk_set (blk_set (blk_set (blk_far BR.out (p := ⟨w.heap.size, 1, none⟩) (by show w.heap.size + 1 ≠ w.heap.size; omega) _) 0 _) 1 _) 2 _) Try.underlying85 rfl (by kernel_rfl)) rfl ?_
    exact ⟨rfl, below_set (below_set (below_set (below_set HB1.out (Nat.le_refl _)) (by omega)) (by omega)) (by omega)⟩
def impl_TurnPlaces.body (k : Nat) (l0_0 : List (List S85)) (l1 : List Int) : Option (List (List S85) × Bool) := ((impl_Prog_copied.f k l0_0).bind fun c => (mapO (mapO (placesF l1)) c).bind fun r => some (r, true))
def impl_TurnPlaces.f (k : Nat) (l0_0 : List (List S85)) (l1 : List Int) : Option (List (List S85) × Bool) := (impl_ProgOk.f k l0_0).bind fun b => if b = true then ((impl_isRow.f k l1 3).bind fun q => if q = true then impl_TurnPlaces.body k l0_0 l1 else some ([], false)) else some ([], false)
theorem impl_TurnPlaces.mono_body (k : Nat) (l0_0 : List (List S85)) (l1 : List Int) : LeO (impl_TurnPlaces.body k l0_0 l1) (impl_TurnPlaces.body (k + 1) l0_0 l1) := LeO.bind (impl_Prog_copied.mono _ _) (fun _ => LeO.refl _)
theorem impl_TurnPlaces.mono : ∀ l0_0 l1 k, LeO (impl_TurnPlaces.f k l0_0 l1) (impl_TurnPlaces.f (k + 1) l0_0 l1) := by
  intro l0_0 l1 k
  unfold impl_TurnPlaces.f
  exact LeO.bind (impl_ProgOk.mono _ _) (fun b => LeO.ite (LeO.bind (impl_isRow.mono _ _ _) (fun q => LeO.ite (impl_TurnPlaces.mono_body _ _ _) (LeO.refl _))) (LeO.refl _))
set_option maxRecDepth 100000 in
set_option maxHeartbeats 8000000 in
theorem impl_TurnPlaces.calls (k : Nat) (A0_0 : Option Addr) (c0_0 : Nat) (l0_0 : List (List S85)) (A1 : Option Addr) (c1 : Nat) (l1 : List Int) (r1 : List (List S85)) (r2 : Bool) (w : World) (hr0_0 : Kd.C (Kd.slice 85 k85) w A0_0 l0_0.length l0_0) (hc0_0 : l0_0.length ≤ c0_0) (hr1 : Kd.C (Kd.int .i64) w A1 l1.length l1) (hc1 : l1.length ≤ c1) (h : impl_TurnPlaces.f k l0_0 l1 = some (r1, r2)) :
  Calls Try.prog 48 #[.agg #[.slice A0_0 l0_0.length c0_0], .slice A1 l1.length c1] w fun e w' => ∃ v0_ : Value, e = .returned (.tuple #[.agg #[v0_], .bool r2]) ∧ Kd.S (Kd.slice 85 k85) 82 w' w.heap.size (fun _ => True) v0_ r1 ∧ Below w.heap.size w w' := by
 have HC := am_ hr0_0
 have HC1 := am_ hr1
 obtain ⟨b, e1, h⟩ := Option.bind_eq_some_iff.mp h
 have E1 := am_ e1
 have H := am_ h
 clear hr0_0 hr1 e1 h
 have hmf : ∀ (fn : Fn) (first cap : Array Value) (w : World), (Instr.makeFunc fn first cap).run Try.prog w = .ok (.func fn first cap) w := fun _ _ _ _ => rfl
 go_enter Try.func48, Try.ntmps48
 go_wp2_with (go_at_call 31; refine park ?_)
 refine ⟨?_⟩
 refine (impl_ProgOk.calls k A0_0 c0_0 l0_0 b _ (Kd.C_alloc (Kd.C_alloc (Kd.C_alloc HC.out _) _) _) hc0_0 E1.out).mono ?_
 rintro e w1 ⟨rfl, hb⟩
 have B3 := below_alloc (below_alloc (below_alloc (Below.refl w.heap.size w) (Obj.cells #[Value.slice A0_0 l0_0.length c0_0] 35)) (Obj.cells #[Value.slice A1 l1.length c1] 22)) (Obj.cells #[Value.slice none 0 0] 35)
 have SZ : (((w.alloc (Obj.cells #[Value.slice A0_0 l0_0.length c0_0] 35)).alloc (Obj.cells #[Value.slice A1 l1.length c1] 22)).alloc (Obj.cells #[Value.slice none 0 0] 35)).heap.size = w.heap.size + 3 := by rw [World.size_alloc, World.size_alloc, World.size_alloc]
 have hbr := blk_below (heap_alloc_new ((w.alloc (Obj.cells #[Value.slice A0_0 l0_0.length c0_0] 35)).alloc (Obj.cells #[Value.slice A1 l1.length c1] 22)) (Obj.cells #[Value.slice none 0 0] 35)) hb
 rw [World.size_alloc, World.size_alloc] at hbr
 have hbw := blk_below (blk_alloc (heap_alloc_new (w.alloc (Obj.cells #[Value.slice A0_0 l0_0.length c0_0] 35)) (Obj.cells #[Value.slice A1 l1.length c1] 22)) (Obj.cells #[Value.slice none 0 0] 35)) hb
 rw [World.size_alloc] at hbw
 have BR := am_ hbr
 have BW := am_ hbw
 have BP := am_ (blk_below (blk_alloc (blk_alloc (heap_alloc_new w (Obj.cells #[Value.slice A0_0 l0_0.length c0_0] 35)) (Obj.cells #[Value.slice A1 l1.length c1] 22)) (Obj.cells #[Value.slice none 0 0] 35)) hb)
 have HB := am_ (below_then B3 B3.size hb)
 have HC2 := am_ (Kd.C_below (Kd.C_alloc (Kd.C_alloc (Kd.C_alloc HC.out (Obj.cells #[Value.slice A0_0 l0_0.length c0_0] 35)) (Obj.cells #[Value.slice A1 l1.length c1] 22)) (Obj.cells #[Value.slice none 0 0] 35)) hb)
 have HR2 := am_ (Kd.C_below (Kd.C_alloc (Kd.C_alloc (Kd.C_alloc HC1.out (Obj.cells #[Value.slice A0_0 l0_0.length c0_0] 35)) (Obj.cells #[Value.slice A1 l1.length c1] 22)) (Obj.cells #[Value.slice none 0 0] 35)) hb)
 have LT := am_ (show w.heap.size + 3 ≤ w1.heap.size by have := hb.size; omega)
 clear hb hbr hbw SZ HC HC1 E1 B3
 cases b with
 | false =>
  have hcr : w1.cell? ⟨w.heap.size + 1 + 1, 0, none⟩ = some (.slice none 0 0) := (blk_cell BR.out 0).trans rfl
  have hfr := blk_frozen BR.out 0
  have e2 := Option.some.inj H.out
  simp only [Prod.mk.injEq] at e2
  obtain ⟨rfl, rfl⟩ := e2
  go_wp2_with fail
  refine bodyPost_ret (results_ct rfl _ _ (w.heap.size + 1 + 1) 35 #[.slice none 0 0] (0, 0) _ rfl (blk_set BR.out 0 _) Try.underlying35 rfl (by kernel_rfl)) rfl ?_
  exact ⟨_, rfl, Kd.S_nil _ _ _ _ _, below_set HB.out (by omega)⟩
 | true =>
  obtain ⟨q, e2, H2⟩ := Option.bind_eq_some_iff.mp H.out
  have E2 := am_ e2
  have HQ := am_ H2
  have hcw : w1.cell? ⟨w.heap.size + 1, 0, none⟩ = some (.slice A1 l1.length c1) := (blk_cell BW.out 0).trans rfl
  clear e2 H2 H
  go_wp2_with (go_at_call 97; refine park ?_)
  clear hcw
  refine ⟨?_⟩
  refine (impl_isRow.calls k A1 c1 l1 3 q _ HR2.out hc1 E2.out).mono ?_
  rintro e w2 ⟨rfl, hd⟩
  have hb : Below w1.heap.size w1 w2 := hd.below
  clear hd
  have BR2 := am_ (blk_below BR.out hb)
  have BW2 := am_ (blk_below BW.out hb)
  have BP2 := am_ (blk_below BP.out hb)
  have HC3 := am_ (Kd.C_below HC2.out hb)
  have HR3 := am_ (Kd.C_below HR2.out hb)
  have HB2 := am_ (below_then HB.out HB.out.size hb)
  have LT2 := am_ (show w.heap.size + 3 ≤ w2.heap.size by have := hb.size; have := LT.out; omega)
  clear hb BR BW BP HC2 HR2 HB LT E2
  have hcr : w2.cell? ⟨w.heap.size + 1 + 1, 0, none⟩ = some (.slice none 0 0) := (blk_cell BR2.out 0).trans rfl
  have hfr := blk_frozen BR2.out 0
  cases q with
  | false =>
   have e2 := Option.some.inj HQ.out
   simp only [Prod.mk.injEq] at e2
   obtain ⟨rfl, rfl⟩ := e2
   go_wp2_with fail
   refine bodyPost_ret (results_ct rfl _ _ (w.heap.size + 1 + 1) 35 #[.slice none 0 0] (0, 0) _ rfl (blk_set BR2.out 0 _) Try.underlying35 rfl (by kernel_rfl)) rfl ?_
   exact ⟨_, rfl, Kd.S_nil _ _ _ _ _, below_set HB2.out (by omega)⟩
  | true =>
   have HK := HQ.out
   rw [if_pos rfl] at HK
   clear hcr hfr
   have hcp : w2.cell? ⟨w.heap.size, 0, none⟩ = some (.slice A0_0 l0_0.length c0_0) := (blk_cell BP2.out 0).trans rfl
   go_wp2_with (go_at_call 82; refine park ?_)
   refine ⟨?_⟩
   clear hcp
   unfold impl_TurnPlaces.body at HK
   obtain ⟨cl, e3, HK⟩ := Option.bind_eq_some_iff.mp HK
   obtain ⟨rr, e4, HK⟩ := Option.bind_eq_some_iff.mp HK
   simp only [Option.some.injEq, Prod.mk.injEq] at HK
   obtain ⟨rfl, rfl⟩ := HK
   refine (each99 k (placesF l1) (.pointer (some ⟨w.heap.size + 1, 0, none⟩)) A0_0 c0_0 l0_0 cl rr _ HC3.out hc0_0
    (fun W d d' hW hd => impl_TurnPlaces.closure W d d' l1 A1 c1 (w.heap.size + 1) (blk_below BW2.out hW) (Kd.C_below HR3.out hW) hd) e3 e4).mono ?_
   rintro e w5 ⟨v5, rfl, hS, hb⟩
   obtain ⟨Av, cv, rfl⟩ := Kd.S_slice hS
   have BR6 := am_ (blk_below BR2.out hb)
   have HB6 := am_ (below_then HB2.out HB2.out.size hb)
   have HS6 := am_ (Kd.S_lower (Kd.S_mono (ok' := fun k => w.heap.size + 3 ≤ k) (Kd.S_bound hS) (fun k hk => by have := hk.2.1; have := LT2.out; omega)) (show w.heap.size ≤ _ from HB2.out.size))
   clear hS hb e3 e4
   have hcr : w5.cell? ⟨w.heap.size + 1 + 1, 0, none⟩ = some (.slice none 0 0) := (blk_cell BR6.out 0).trans rfl
   have hfr := blk_frozen BR6.out 0
   go_wp2_with fail
   refine bodyPost_ret (results_ct rfl _ _ (w.heap.size + 1 + 1) 35 #[.slice Av rr.length cv] (0, 0) _ rfl (blk_set BR6.out 0 _) Try.underlying35 rfl (by kernel_rfl)) rfl ?_
   exact ⟨_, rfl, Kd.S_mono (Kd.S_far (p := ⟨w.heap.size + 1 + 1, 0, none⟩) HS6.out (fun k hk => by show k ≠ w.heap.size + 1 + 1; omega) _) (fun _ _ => trivial), below_set HB6.out (by omega)⟩


end Go.Proofs.Ytefkbmhkhpekjaa.PB

namespace Go.Proofs.Ytefkbmhkhpekjaa.PB
open Go.RowKit Go.Proofs.YtefkbmhkhpekjaaW.PrintWords Go.Proofs.YtefkbmhkhpekjaaW.PrintLast Go.Proofs.YtefkbmhkhpekjaaW.PrintMore
attribute [local go_sem] max2_int min2_int max_two min_two max_three min_three max_four min_four   -- for this text's walks alone
open Go.Proofs.YtefkbmhkhpekjaaMine
set_option linter.unusedVariables false
set_option linter.unusedSimpArgs false

/-- A state of type 116 at block g of W; what its slices lead to came in by w0. -/
def IsS116 (w0 W : World) (g : Nat) (f0 : List Int) (f1 : Int) : Prop := ∃ A0 c0, W.heap[g]? = some (.cells #[.slice A0 f0.length c0, .int .i64 f1] 116 (0, 0)) ∧ w0.heap.size ≤ g ∧ Kd.C (Kd.int .u8) w0 A0 f0.length f0
theorem IsS116.grown {w0 W : World} {g : Nat} {f0 : List Int} {f1 : Int} {W1 : World} {row : Option Nat} (h : IsS116 w0 W g f0 f1) (hw : W.grownBy W1 row) (hne : some g ≠ row) : IsS116 w0 W1 g f0 f1 := by
  obtain ⟨A0, c0, hb, hg, hr0⟩ := h
  exact ⟨A0, c0, blk_grown hb hw hne, hg, hr0⟩
theorem IsS116.own_neN {w0 W : World} {g : Nat} {f0 : List Int} {f1 : Int} {α : Type} {d : Kd α} {e : Nat} {base : Nat} {ok : Nat → Prop} {v : Value} {xs : List α} (h : IsS116 w0 W g f0 f1) (ho : Kd.N d e W base ok v xs) (ht : e ≠ 116) : some g ≠ v.ownBlock := by
  obtain ⟨A0, c0, hb, hg, hr0⟩ := h
  exact Kd.N_ne ho hb ht
theorem IsS116.fresh {w0 W : World} {g : Nat} {f0 : List Int} {f1 : Int} (h : IsS116 w0 W g f0 f1) : ∀ k, W.heap.size ≤ k → k ≠ g := by
  obtain ⟨A0, c0, hb, hg, hr0⟩ := h
  exact Kd.freshB hb
theorem IsS116.kept {w0 W : World} {g : Nat} {f0 : List Int} {f1 : Int} {W1 : World} {S : Nat → Prop} (h : IsS116 w0 W g f0 f1) (hk : Kept W W1 S) (hne : ¬ S g) : IsS116 w0 W1 g f0 f1 := by
  obtain ⟨A0, c0, hb, hg, hr0⟩ := h
  exact ⟨A0, c0, blk_kept hb hk hne, hg, hr0⟩
theorem IsS116.below {w0 W : World} {g : Nat} {f0 : List Int} {f1 : Int} {W1 : World} (h : IsS116 w0 W g f0 f1) (hw : Below W.heap.size W W1) : IsS116 w0 W1 g f0 f1 := h.grown (grown_of_below hw none) (by simp)
theorem IsS116.alloc {w0 W : World} {g : Nat} {f0 : List Int} {f1 : Int} (h : IsS116 w0 W g f0 f1) (o : Obj) : IsS116 w0 (W.alloc o) g f0 f1 := h.below (below_alloc (Below.refl _ _) o)
theorem IsS116.drewN {w0 W : World} {g : Nat} {f0 : List Int} {f1 : Int} (h : IsS116 w0 W g f0 f1) (m : Nat) : IsS116 w0 (W.drewN m) g f0 f1 := h
theorem IsS116.drew {w0 W : World} {g : Nat} {f0 : List Int} {f1 : Int} (h : IsS116 w0 W g f0 f1) : IsS116 w0 W.drew g f0 f1 := h
theorem IsS116.at_ {w0 W : World} {g : Nat} {f0 : List Int} {f1 : Int} {w' : World} {m : Nat} (hq : W.drewN m = w') (h : IsS116 w0 W g f0 f1) : IsS116 w0 w' g f0 f1 := by subst hq; exact IsS116.drewN h m
theorem IsS116.apart {w0 W : World} {g : Nat} {f0 : List Int} {f1 : Int} {α : Type} {d : Kd α} {e : Nat} {base : Nat} {ok : Nat → Prop} {v : Value} {xs : List α} (h : IsS116 w0 W g f0 f1) (ho : d.R e W base ok v xs) (ht : ∀ q, q ∈ e :: d.E → q ≠ 116) : d.R e W base (fun k => ok k ∧ k ≠ g) v xs := by
  obtain ⟨A0, c0, hb, hg, hr0⟩ := h
  exact Kd.R_types ho hb ht
theorem IsS116.own_ne {w0 W : World} {g : Nat} {f0 : List Int} {f1 : Int} {α : Type} {d : Kd α} {e : Nat} {base : Nat} {ok : Nat → Prop} {v : Value} {xs : List α} (h : IsS116 w0 W g f0 f1) (ho : d.R e W base ok v xs) (ht : e ≠ 116) : some g ≠ v.ownBlock := by
  obtain ⟨A0, c0, hb, hg, hr0⟩ := h
  exact Kd.R_ne ho hb ht
theorem IsS116.apartQ {w0 W : World} {g : Nat} {f0 : List Int} {f1 : Int} {α : Type} {d : Kd α} {e : Nat} {base : Nat} {ok : Nat → Prop} {v : Value} {xs : List α} (h : IsS116 w0 W g f0 f1) (ho : d.Q e W base ok v xs) (ht : ∀ q, q ∈ e :: d.E → q ≠ 116) : d.Q e W base (fun k => ok k ∧ k ≠ g) v xs := by
  obtain ⟨A0, c0, hb, hg, hr0⟩ := h
  exact Kd.Q_types ho hb ht
theorem IsS116.own_neQ {w0 W : World} {g : Nat} {f0 : List Int} {f1 : Int} {α : Type} {d : Kd α} {e : Nat} {base : Nat} {ok : Nat → Prop} {v : Value} {xs : List α} (h : IsS116 w0 W g f0 f1) (ho : d.Q e W base ok v xs) (ht : e ≠ 116) : some g ≠ v.ownBlock := by
  obtain ⟨A0, c0, hb, hg, hr0⟩ := h
  exact Kd.Q_ne ho hb ht
theorem IsS116.apartS {w0 W : World} {g : Nat} {f0 : List Int} {f1 : Int} {α : Type} {d : Kd α} {e : Nat} {base : Nat} {ok : Nat → Prop} {v : Value} {xs : List α} (h : IsS116 w0 W g f0 f1) (ho : d.S e W base ok v xs) (ht : ∀ q, q ∈ e :: d.E → q ≠ 116) : d.S e W base (fun k => ok k ∧ k ≠ g) v xs := by
  obtain ⟨A0, c0, hb, hg, hr0⟩ := h
  exact Kd.S_types ho hb ht
theorem IsS116.own_neS {w0 W : World} {g : Nat} {f0 : List Int} {f1 : Int} {α : Type} {d : Kd α} {e : Nat} {base : Nat} {ok : Nat → Prop} {v : Value} {xs : List α} (h : IsS116 w0 W g f0 f1) (ho : d.S e W base ok v xs) (ht : e ≠ 116) : some g ≠ v.ownBlock := by
  obtain ⟨A0, c0, hb, hg, hr0⟩ := h
  exact Kd.S_ne ho hb ht
theorem IsS116.lt {w0 W : World} {g : Nat} {f0 : List Int} {f1 : Int} (h : IsS116 w0 W g f0 f1) : g < W.heap.size := by
  obtain ⟨A0, c0, hb, hg, hr0⟩ := h
  exact blk_lt hb
theorem IsS116.ge {w0 W : World} {g : Nat} {f0 : List Int} {f1 : Int} (h : IsS116 w0 W g f0 f1) : w0.heap.size ≤ g := by
  obtain ⟨A0, c0, hb, hg, hr0⟩ := h
  exact hg
theorem IsS116.ne_blk {w0 W : World} {g : Nat} {f0 : List Int} {f1 : Int} {a : Nat} {cs : Array Value} {t : TypeId} {fr : Nat × Nat} (h : IsS116 w0 W g f0 f1) (hb2 : W.heap[a]? = some (.cells cs t fr)) (ht : t ≠ 116) : g ≠ a := by
  obtain ⟨A0, c0, hb, hg, hr0⟩ := h
  rintro rfl
  rw [hb] at hb2
  injection hb2 with hb2
  injection hb2 with _ ht2
  exact ht ht2.symm
theorem IsS116.far {w0 W : World} {g : Nat} {f0 : List Int} {f1 : Int} {p : Addr} (h : IsS116 w0 W g f0 f1) (hne : g ≠ p.block) (u : Value) : IsS116 w0 (W.setCell p u) g f0 f1 := by
  obtain ⟨A0, c0, hb, hg, hr0⟩ := h
  exact ⟨A0, c0, blk_far hb hne u, hg, hr0⟩
theorem cellS116_0 {W : World} {g : Nat} {A0 : Option Addr} {c0 : Nat} {f0 : List Int} {f1 : Int} (h : W.heap[g]? = some (.cells #[.slice A0 f0.length c0, .int .i64 f1] 116 (0, 0))) : W.cell? ⟨g, 0, none⟩ = some (.slice A0 f0.length c0) := (blk_cell h 0).trans rfl
theorem cellS116_1 {W : World} {g : Nat} {A0 : Option Addr} {c0 : Nat} {f0 : List Int} {f1 : Int} (h : W.heap[g]? = some (.cells #[.slice A0 f0.length c0, .int .i64 f1] 116 (0, 0))) : W.cell? ⟨g, 1, none⟩ = some (.int .i64 f1) := (blk_cell h 1).trans rfl
theorem IsS116.set_1 {w0 W : World} {g : Nat} {f0 : List Int} {f1 : Int} (h : IsS116 w0 W g f0 f1) (x : Int) : IsS116 w0 (W.setCell ⟨g, 1, none⟩ (.int .i64 x)) g f0 x := by
  obtain ⟨A0, c0, hb, hg, hr0⟩ := h
  exact ⟨A0, c0, by simpa using blk_set hb 1 (.int .i64 x), hg, hr0⟩
theorem IsS116.new (w0 W : World) (A0 : Option Addr) (c0 : Nat) (f0 : List Int) (f1 : Int) (hB : Below w0.heap.size w0 W) (hr0 : Kd.C (Kd.int .u8) w0 A0 f0.length f0) : IsS116 w0 (W.alloc (.cells #[.slice A0 f0.length c0, .int .i64 f1] 116)) W.heap.size f0 f1 := ⟨A0, c0, by simpa using heap_alloc_new W _, hB.size, hr0⟩

theorem z70_1 {p : Prop} (h : p := by repeat (first | (with_reducible first | exact HB.out | apply below_alloc | apply pw_below_drewN | apply below_drew1) | exact HB.out)) : p := h
theorem z70_2 {p : Prop} (h : p := by repeat (first | (with_reducible first | exact HBW.out | apply below_alloc | apply pw_below_drewN | apply below_drew1) | exact HBW.out)) : p := h
/-! ### spec_l6Open: function 70 -/
def spec_l6Open.f (l0 : List Int) : Option (List Int × Int) := if (l0.length : Int) > 2000 then (if 2000 ≤ (l0.length : Int) then (some (l0.take 2000, 0)) else (none)) else (some (l0, 0))
set_option maxHeartbeats 8000000 in
set_option maxRecDepth 100000 in
theorem spec_l6Open.calls (A0 : Option Addr) (c0 : Nat) (l0 : List Int) (r1 : List Int) (r2 : Int) (w0 w : World) (hB : Below w0.heap.size w0 w) (hr0 : Kd.C (Kd.int .u8) w0 A0 l0.length l0) (hc0 : l0.length ≤ c0) (h : spec_l6Open.f l0 = some (r1, r2)) :
  Calls Try.prog 70 #[.slice A0 l0.length c0] w fun e w' => ∃ g_ : Nat, e = .returned (.pointer (some ⟨g_, 0, none⟩)) ∧ IsS116 w0 w' g_ r1 r2 ∧ Below w0.heap.size w0 w' ∧ Below w.heap.size w w' := by
 have hu116 := Try.underlying116
 have HR0 := am_ hr0
 have HC0 := am_ hc0
 clear hr0 hc0
 have HBW := am_ (Below.refl w.heap.size w)
 have HW0 := am_ hB.size
 have HB := am_ hB
 clear hB
 have H : (if (l0.length : Int) > 2000 then (if 2000 ≤ (l0.length : Int) then (some (l0.take 2000, 0)) else (none)) else (some (l0, 0))) = some (r1, r2) := h
 clear h
 by_cases c2 : (l0.length : Int) > 2000
 ·rw [if_pos c2] at H
  have c2b0 : decide (2000 < (l0.length : Int)) = true := decide_eq_true c2
  have c2b1 : decide (2000 < l0.length) = true := decide_eq_true (by omega)
  clear c2
  by_cases c3 : 2000 ≤ (l0.length : Int)
  ·rw [if_pos c3] at H
   have c3b0 := eq_true c3
   have c3b1 : decide (2000 ≤ (l0.length : Int)) = true := decide_eq_true c3
   clear c3
   simp only [Option.some.injEq, Prod.mk.injEq] at H
   obtain ⟨rfl, rfl⟩ := H
   obtain ⟨i04, hi04, _, hsz4, _⟩ := info_parts info5
   obtain ⟨hcut4, hA4, hC4⟩ := print_take_of (P := Try.prog) (Value.int .u8) 0 30 5 .i64 Try.underlying30 hi04 hsz4 A0 c0 l0 2000 (by omega) (of_decide_eq_true (by first | (with_reducible assumption) | assumption)) HC0.out
   have HR179 := am_ (Kd.C_of_reads (h1 := fun _ => rfl) (hA4 _ (Kd.reads_of_C HR0.out)))
   have HC179 := am_ hC4
   clear hA4 hC4 hi04 hsz4
   go_enter Try.func70, Try.ntmps70
   go_wp2_with (first | ((with_reducible refine gate_dst (N := 10) rfl ?_); refine box_event ?hg (N := 10) ?hd (cs := #[.slice A0 (l0.take 2000).length c0, .int .i64 0]) (t := 116) ?hr ?_; (case hd => rfl); (case hg => rfl); (case hr => first | (go_simp; done) | (go_simp; rfl)); intro gb180 hg w5 hbox hb; have n0_ := am_ (below_step HBW.out hb); have n1_ := am_ (below_step z70_1 hb); have n2_ := am_ (hbox); have n3_ := am_ (by rw [hg]; exact (below_size z70_2) : w.heap.size ≤ gb180); have n4_ := am_ (Nat.le_trans HW0.out (by rw [hg]; exact (below_size z70_2) : w.heap.size ≤ gb180) : w0.heap.size ≤ gb180); clear HBW HB; have HBW := n0_; have HB := n1_; have BK180 := n2_; have GW180 := n3_; have GE180 := n4_; clear n0_ n1_ n2_ n3_ n4_; clear hb hbox hg))
   go_ret
   exact ⟨_, rfl, (show IsS116 w0 _ gb180 (l0.take 2000) 0 from ⟨_, _, bu BK180.out, GE180.out, HR179.out⟩), by repeat (first | (with_reducible first | exact HB.out | apply below_alloc | apply pw_below_drewN | apply below_drew1 | refine below_set ?_ GE180.out) | exact HB.out), by repeat (first | (with_reducible first | exact HBW.out | apply below_alloc | apply pw_below_drewN | apply below_drew1 | refine below_set ?_ GW180.out) | exact HBW.out)⟩
  ·rw [if_neg c3] at H
   exact absurd H (by simp)
 ·rw [if_neg c2] at H
  have c2b0 : decide (2000 < (l0.length : Int)) = false := decide_eq_false c2
  have c2b1 : decide (2000 < l0.length) = false := decide_eq_false (by omega)
  clear c2
  simp only [Option.some.injEq, Prod.mk.injEq] at H
  obtain ⟨rfl, rfl⟩ := H
  go_enter Try.func70, Try.ntmps70
  go_wp2_with (first | ((with_reducible refine gate_dst (N := 10) rfl ?_); refine box_event ?hg (N := 10) ?hd (cs := #[.slice A0 l0.length c0, .int .i64 0]) (t := 116) ?hr ?_; (case hd => rfl); (case hg => rfl); (case hr => first | (go_simp; done) | (go_simp; rfl)); intro gb181 hg w6 hbox hb; have n0_ := am_ (below_step HBW.out hb); have n1_ := am_ (below_step z70_1 hb); have n2_ := am_ (hbox); have n3_ := am_ (by rw [hg]; exact (below_size z70_2) : w.heap.size ≤ gb181); have n4_ := am_ (Nat.le_trans HW0.out (by rw [hg]; exact (below_size z70_2) : w.heap.size ≤ gb181) : w0.heap.size ≤ gb181); clear HBW HB; have HBW := n0_; have HB := n1_; have BK181 := n2_; have GW181 := n3_; have GE181 := n4_; clear n0_ n1_ n2_ n3_ n4_; clear hb hbox hg))
  go_ret
  exact ⟨_, rfl, (show IsS116 w0 _ gb181 l0 0 from ⟨_, _, bu BK181.out, GE181.out, HR0.out⟩), by repeat (first | (with_reducible first | exact HB.out | apply below_alloc | apply pw_below_drewN | apply below_drew1 | refine below_set ?_ GE181.out) | exact HB.out), by repeat (first | (with_reducible first | exact HBW.out | apply below_alloc | apply pw_below_drewN | apply below_drew1 | refine below_set ?_ GW181.out) | exact HBW.out)⟩

end Go.Proofs.Ytefkbmhkhpekjaa.PB

namespace Go.Proofs.Ytefkbmhkhpekjaa.PB
open Go.RowKit Go.Proofs.YtefkbmhkhpekjaaW.PrintWords Go.Proofs.YtefkbmhkhpekjaaW.PrintLast Go.Proofs.YtefkbmhkhpekjaaW.PrintMore
attribute [local go_sem] max2_int min2_int max_two min_two max_three min_three max_four min_four   -- for this text's walks alone
open Go.Proofs.YtefkbmhkhpekjaaMine
set_option linter.unusedVariables false
set_option linter.unusedSimpArgs false

theorem z71_1 {p : Prop} (h : p := by first | (with_reducible assumption) | assumption) : p := h
theorem z71_2 {p : Prop} (h : p := by repeat (first | (with_reducible first | exact HK.out | apply KeepBut.set_ | apply keep_drewN | apply keep_drew | apply keep_alloc) | exact HK.out)) : p := h
theorem z71_3 {p : Prop} (h : p := by repeat (first | (with_reducible first | exact HI0.out | apply IsS116.alloc | apply IsS116.drewN | apply IsS116.drew | apply IsS116.set_1) | exact HI0.out)) : p := h
theorem z71_4 {p : Prop} (h : p := by repeat (first | (with_reducible first | exact HB.out | apply below_alloc | apply pw_below_drewN | apply below_drew1 | refine below_set ?_ (IsS116.ge HI0.out)) | exact HB.out)) : p := h
/-! ### spec_l6Rd_pick: function 71 -/
def spec_l6Rd_pick.j0 : Nat → Int → Bool → List Int → Int → Option (Int × Int)
  | 0, _, _, _, _ => none
  | k + 1, x1, x24, x1000, x1001 => if x24 = true then (some (0, x1001)) else (if (wrap64 (x1001 - 1)) < (x1000.length : Int) then (if 0 ≤ (wrap64 (x1001 - 1)) then (if x1 = 0 then (none) else (some (Int.tmod (wrap64 (rd x1000 (wrap64 (x1001 - 1)))) x1, x1001))) else (none)) else (if (x1000.length : Int) = 0 then (none) else (if 0 ≤ (Int.tmod (wrap64 (x1001 - 1)) (x1000.length : Int)) then (if (Int.tmod (wrap64 (x1001 - 1)) (x1000.length : Int)) < (x1000.length : Int) then (if 0 ≤ (Int.tmod (wrap64 ((wrap64 ((wrap64 (x1001 - 1)) * 7)) + 3)) (x1000.length : Int)) then (if (Int.tmod (wrap64 ((wrap64 ((wrap64 (x1001 - 1)) * 7)) + 3)) (x1000.length : Int)) < (x1000.length : Int) then (if x1 = 0 then (none) else (some (Int.tmod (Go.bits .xor .i64 (wrap64 ((wrap64 ((wrap64 ((wrap64 ((wrap64 (rd x1000 (Int.tmod (wrap64 (x1001 - 1)) (x1000.length : Int)))) * 131)) + (wrap64 ((wrap64 (rd x1000 (Int.tmod (wrap64 ((wrap64 ((wrap64 (x1001 - 1)) * 7)) + 3)) (x1000.length : Int)))) * 1117)))) + (wrap64 ((wrap64 (x1001 - 1)) * 29)))) + (wrap64 ((wrap64 (Int.tdiv (wrap64 (x1001 - 1)) (x1000.length : Int))) * 53)))) (wrap64 (Int.tdiv (wrap64 ((wrap64 ((wrap64 ((wrap64 ((wrap64 (rd x1000 (Int.tmod (wrap64 (x1001 - 1)) (x1000.length : Int)))) * 131)) + (wrap64 ((wrap64 (rd x1000 (Int.tmod (wrap64 ((wrap64 ((wrap64 (x1001 - 1)) * 7)) + 3)) (x1000.length : Int)))) * 1117)))) + (wrap64 ((wrap64 (x1001 - 1)) * 29)))) + (wrap64 ((wrap64 (Int.tdiv (wrap64 (x1001 - 1)) (x1000.length : Int))) * 53)))) 64))) x1, x1001))) else (none)) else (none)) else (none)) else (none))))
def spec_l6Rd_pick.f (k : Nat) (s0_0 : List Int) (s0_1 : Int) (a1 : Int) : Option (Int × Int) := if a1 < 1 then (spec_l6Rd_pick.j0 k a1 true s0_0 (wrap64 (s0_1 + 1))) else (spec_l6Rd_pick.j0 k a1 ((s0_0.length : Int) == 0) s0_0 (wrap64 (s0_1 + 1)))
theorem spec_l6Rd_pick.mono_l : ∀ k, (∀ y0 y1 y2 y3, LeO (spec_l6Rd_pick.j0 k y0 y1 y2 y3) (spec_l6Rd_pick.j0 (k + 1) y0 y1 y2 y3))
  | 0 => fun _ _ _ _ r h => by simp [spec_l6Rd_pick.j0] at h
  | k + 1 => by
    have ih0 := spec_l6Rd_pick.mono_l k
    · intro y0 y1 y2 y3
      unfold spec_l6Rd_pick.j0
      repeat' first
      | (with_reducible exact ih0 _ _ _ _)
      | (with_reducible exact LeO.refl _)
      | (with_reducible exact LeO.none _)
      | (with_reducible refine LeO.ite ?_ ?_)
      | (with_reducible refine LeO.bind ?_ (fun _ => ?_))
      | exact ih0 _ _ _ _
      | exact LeO.none _
      | refine LeO.ite ?_ ?_
      | refine LeO.bind ?_ (fun _ => ?_)
theorem spec_l6Rd_pick.mono : ∀ a0 a1 a2 k, LeO (spec_l6Rd_pick.f k a0 a1 a2) (spec_l6Rd_pick.f (k + 1) a0 a1 a2) := by
  intro a0 a1 a2 k
  have ih0 := spec_l6Rd_pick.mono_l k
  unfold spec_l6Rd_pick.f
  repeat' first
      | (with_reducible exact ih0 _ _ _ _)
      | (with_reducible exact LeO.refl _)
      | (with_reducible exact LeO.none _)
      | (with_reducible refine LeO.ite ?_ ?_)
      | (with_reducible refine LeO.bind ?_ (fun _ => ?_))
      | exact ih0 _ _ _ _
      | exact LeO.none _
      | refine LeO.ite ?_ ?_
      | refine LeO.bind ?_ (fun _ => ?_)
set_option maxHeartbeats 8000000 in
set_option maxRecDepth 100000 in
theorem spec_l6Rd_pick.calls (k : Nat) (g : Nat) (s0_0 : List Int) (s0_1 : Int) (a1 : Int) (r1 : Int) (r2 : Int) (w0 w : World) (hI : IsS116 w0 w g s0_0 s0_1) (hB : Below w0.heap.size w0 w) (h : spec_l6Rd_pick.f k s0_0 s0_1 a1 = some (r1, r2)) :
  Calls Try.prog 71 #[.pointer (some ⟨g, 0, none⟩), .int .i64 a1] w fun e w' => e = .returned (.int .i64 r1) ∧ IsS116 w0 w' g s0_0 r2 ∧ Below w0.heap.size w0 w' ∧ KeepBut w w' g none := by
 have HI0 := am_ hI
 have HK := am_ (KeepBut.refl w g none)
 have HL := am_ hB.size
 clear hI
 have HW0 := am_ hB.size
 have HB := am_ hB
 clear hB
 have H : (if a1 < 1 then (spec_l6Rd_pick.j0 k a1 true s0_0 (wrap64 (s0_1 + 1))) else (spec_l6Rd_pick.j0 k a1 ((s0_0.length : Int) == 0) s0_0 (wrap64 (s0_1 + 1)))) = some (r1, r2) := h
 clear h
 have HC3 := am_ H
 clear H
 obtain ⟨ASz4_0, cSz4_0, HGz4, hgz4, HSz4_0⟩ := HI0.out
 have hcz4_0 := cellS116_0 HGz4
 have hcz4_1 := cellS116_1 HGz4
 have hfz4_1 := blk_frozen HGz4 1
 clear HGz4 hgz4
 go_enter Try.func71, Try.ntmps71
 go_upto_region 2 with (fail)
 repeat (go_quiet (fail); go_upto_region 2 with (fail))
 go_cut [24] (fun v24 wc => ∃ (kq : Nat) (x24_2 : Bool), v24 = .bool x24_2 ∧ Aside0 (spec_l6Rd_pick.j0 kq a1 x24_2 s0_0 (wrap64 (s0_1 + 1)) = some (r1, r2)) ∧ Aside0 (kq ≤ k) ∧ Aside0 (IsS116 w0 wc g s0_0 (wrap64 (s0_1 + 1))) ∧ Aside0 (KeepBut w wc g none) ∧ Aside0 (Below w0.heap.size w0 wc))
 case first =>
  have H := HC3.out
  clear HC3
  by_cases c5 : a1 < 1
  ·rw [if_pos c5] at H
   have c5b0 : decide (a1 < 1) = true := decide_eq_true c5
   clear c5
   (first | rw [c5b0] | (simp only [i64_w, i32_w]; rw [c5b0]) | skip)
   have H' := am_ H
   clear H
   go_wp2
   repeat (go_quiet (fail); try go_wp2)
   go_meet
   case rel => exact ⟨_, (true), (by first | rfl | (simp; done) | (simp [*]; done)), H', ⟨by first | omega | exact Nat.le_refl _⟩, ⟨z71_3⟩, ⟨z71_2⟩, ⟨z71_4⟩⟩
  ·rw [if_neg c5] at H
   have c5b0 : decide (a1 < 1) = false := decide_eq_false c5
   clear c5
   (first | rw [c5b0] | (simp only [i64_w, i32_w]; rw [c5b0]) | skip)
   have H' := am_ H
   clear H
   obtain ⟨ASz6_0, cSz6_0, HGz6, hgz6, HSz6_0⟩ := HI0.out
   have hcz6_0 := cellS116_0 HGz6
   have hcz6_1 := cellS116_1 HGz6
   have hfz6_1 := blk_frozen HGz6 1
   clear HGz6 hgz6
   go_wp2
   repeat (go_quiet (fail); try go_wp2)
   go_meet
   case rel => exact ⟨_, (((s0_0.length : Int) == 0)), (by first | rfl | (simp; done) | (simp [*]; done)), H', ⟨by first | omega | exact Nat.le_refl _⟩, ⟨z71_3⟩, ⟨z71_2⟩, ⟨z71_4⟩⟩
 case rest =>
  clear HC3
  obtain ⟨kq, x24_2, rfl, HA, HJ2, HI0, HK, HB⟩ := hcut
  cases kq with
  | zero => exact absurd HA.out (by simp [spec_l6Rd_pick.j0])
  | succ kj2 =>
   have H := HA.out
   clear HA
   simp only [spec_l6Rd_pick.j0] at H
   by_cases c7 : x24_2 = true
   ·subst c7
    have H1 : (some (0, (wrap64 (s0_1 + 1)))) = some (r1, r2) := by rw [if_pos rfl] at H; exact H
    clear H
    have H := H1
    clear H1
    simp only [Option.some.injEq, Prod.mk.injEq] at H
    obtain ⟨rfl, rfl⟩ := H
    go_wp2
    repeat (go_quiet (fail); try go_wp2)
    go_ret
    exact ⟨by first | rfl | (simp [errW_none, errW_some] <;> rfl) | (simp [*, errW_none, errW_some] <;> rfl), z71_3, z71_4, z71_2⟩
   ·replace c7 := Bool.eq_false_iff.mpr c7
    subst c7
    have H1 : (if (wrap64 ((wrap64 (s0_1 + 1)) - 1)) < (s0_0.length : Int) then (if 0 ≤ (wrap64 ((wrap64 (s0_1 + 1)) - 1)) then (if a1 = 0 then (none) else (some (Int.tmod (wrap64 (rd s0_0 (wrap64 ((wrap64 (s0_1 + 1)) - 1)))) a1, (wrap64 (s0_1 + 1))))) else (none)) else (if (s0_0.length : Int) = 0 then (none) else (if 0 ≤ (Int.tmod (wrap64 ((wrap64 (s0_1 + 1)) - 1)) (s0_0.length : Int)) then (if (Int.tmod (wrap64 ((wrap64 (s0_1 + 1)) - 1)) (s0_0.length : Int)) < (s0_0.length : Int) then (if 0 ≤ (Int.tmod (wrap64 ((wrap64 ((wrap64 ((wrap64 (s0_1 + 1)) - 1)) * 7)) + 3)) (s0_0.length : Int)) then (if (Int.tmod (wrap64 ((wrap64 ((wrap64 ((wrap64 (s0_1 + 1)) - 1)) * 7)) + 3)) (s0_0.length : Int)) < (s0_0.length : Int) then (if a1 = 0 then (none) else (some (Int.tmod (Go.bits .xor .i64 (wrap64 ((wrap64 ((wrap64 ((wrap64 ((wrap64 (rd s0_0 (Int.tmod (wrap64 ((wrap64 (s0_1 + 1)) - 1)) (s0_0.length : Int)))) * 131)) + (wrap64 ((wrap64 (rd s0_0 (Int.tmod (wrap64 ((wrap64 ((wrap64 ((wrap64 (s0_1 + 1)) - 1)) * 7)) + 3)) (s0_0.length : Int)))) * 1117)))) + (wrap64 ((wrap64 ((wrap64 (s0_1 + 1)) - 1)) * 29)))) + (wrap64 ((wrap64 (Int.tdiv (wrap64 ((wrap64 (s0_1 + 1)) - 1)) (s0_0.length : Int))) * 53)))) (wrap64 (Int.tdiv (wrap64 ((wrap64 ((wrap64 ((wrap64 ((wrap64 (rd s0_0 (Int.tmod (wrap64 ((wrap64 (s0_1 + 1)) - 1)) (s0_0.length : Int)))) * 131)) + (wrap64 ((wrap64 (rd s0_0 (Int.tmod (wrap64 ((wrap64 ((wrap64 ((wrap64 (s0_1 + 1)) - 1)) * 7)) + 3)) (s0_0.length : Int)))) * 1117)))) + (wrap64 ((wrap64 ((wrap64 (s0_1 + 1)) - 1)) * 29)))) + (wrap64 ((wrap64 (Int.tdiv (wrap64 ((wrap64 (s0_1 + 1)) - 1)) (s0_0.length : Int))) * 53)))) 64))) a1, (wrap64 (s0_1 + 1))))) else (none)) else (none)) else (none)) else (none)))) = some (r1, r2) := by rw [if_neg (show ¬ (false = true) by decide)] at H; exact H
    clear H
    have H := H1
    clear H1
    by_cases c8 : (wrap64 ((wrap64 (s0_1 + 1)) - 1)) < (s0_0.length : Int)
    ·rw [if_pos c8] at H
     have c8b0 : decide ((wrap64 ((wrap64 (s0_1 + 1)) - 1)) < (s0_0.length : Int)) = true := decide_eq_true c8
     clear c8
     obtain ⟨ji9, hji9⟩ : ∃ j_ : Int, (wrap64 ((wrap64 (s0_1 + 1)) - 1)) = j_ := ⟨_, rfl⟩
     replace H : (if 0 ≤ (ji9) then (if a1 = 0 then (none) else (some (Int.tmod (wrap64 (rd s0_0 (ji9))) a1, (wrap64 (s0_1 + 1))))) else (none)) = some (r1, r2) := by first | (rw [hji9] at H; exact H) | (simp only [hji9] at H ⊢; exact H)
     (try rw [hji9] at c8b0)
     have hji9w : (IntKind.i64.wrap ((wrap64 (s0_1 + 1)) - 1)) = ji9 := (i64_w _).trans hji9
     by_cases c10 : 0 ≤ (ji9)
     ·rw [if_pos c10] at H
      have c10b0 : decide (0 ≤ (ji9)) = true := decide_eq_true c10
      clear c10
      by_cases c11 : a1 = 0
      ·rw [if_pos c11] at H
       exact absurd H (by simp)
      ·rw [if_neg c11] at H
       have c11b0 : (a1 == 0) = false := beq_eq_false_iff_ne.mpr c11
       have c11b1 : (a1 != 0) = true := bne_iff_ne.mpr c11
       simp only [Option.some.injEq, Prod.mk.injEq] at H
       obtain ⟨rfl, rfl⟩ := H
       obtain ⟨ASz12_0, cSz12_0, HGz12, hgz12, HSz12_0⟩ := HI0.out
       have hcz12_0 := cellS116_0 HGz12
       have hcz12_1 := cellS116_1 HGz12
       have hfz12_1 := blk_frozen HGz12 1
       clear HGz12 hgz12
       have p182 : 0 ≤ ((ji9) : Int) := of_decide_eq_true z71_1
       have q182 : (ji9) < (s0_0.length : Int) := of_decide_eq_true z71_1
       obtain ⟨ad182, e182, hx182_0⟩ := Kd.at_int HSz12_0 (ji9) p182 q182
       cases e182
       replace hx182_0 := pw_cell_below HB.out hx182_0
       replace p182 := eq_true p182
       replace q182 := eq_true q182
       go_wp2
       repeat (go_quiet (fail); try go_wp2)
       go_ret
       exact ⟨by first | rfl | (simp [errW_none, errW_some] <;> rfl) | (simp only [← hji9]; first | rfl | (simp [errW_none, errW_some] <;> rfl)) | (simp [*, errW_none, errW_some] <;> rfl), z71_3, z71_4, z71_2⟩
     ·rw [if_neg c10] at H
      exact absurd H (by simp)
    ·rw [if_neg c8] at H
     have c8b0 : decide ((wrap64 ((wrap64 (s0_1 + 1)) - 1)) < (s0_0.length : Int)) = false := decide_eq_false c8
     clear c8
     by_cases c13 : (s0_0.length : Int) = 0
     ·rw [if_pos c13] at H
      exact absurd H (by simp)
     ·rw [if_neg c13] at H
      have c13b0 : ((s0_0.length : Int) == 0) = false := beq_eq_false_iff_ne.mpr c13
      have c13b1 : ((s0_0.length : Int) != 0) = true := bne_iff_ne.mpr c13
      have c13b2 : ¬ (s0_0 = []) := fun h_ => c13 (by rw [h_]; rfl)
      obtain ⟨ji14, hji14⟩ : ∃ j_ : Int, (Int.tmod (wrap64 ((wrap64 (s0_1 + 1)) - 1)) (s0_0.length : Int)) = j_ := ⟨_, rfl⟩
      replace H : (if 0 ≤ (ji14) then (if (ji14) < (s0_0.length : Int) then (if 0 ≤ (Int.tmod (wrap64 ((wrap64 ((wrap64 ((wrap64 (s0_1 + 1)) - 1)) * 7)) + 3)) (s0_0.length : Int)) then (if (Int.tmod (wrap64 ((wrap64 ((wrap64 ((wrap64 (s0_1 + 1)) - 1)) * 7)) + 3)) (s0_0.length : Int)) < (s0_0.length : Int) then (if a1 = 0 then (none) else (some (Int.tmod (Go.bits .xor .i64 (wrap64 ((wrap64 ((wrap64 ((wrap64 ((wrap64 (rd s0_0 (ji14))) * 131)) + (wrap64 ((wrap64 (rd s0_0 (Int.tmod (wrap64 ((wrap64 ((wrap64 ((wrap64 (s0_1 + 1)) - 1)) * 7)) + 3)) (s0_0.length : Int)))) * 1117)))) + (wrap64 ((wrap64 ((wrap64 (s0_1 + 1)) - 1)) * 29)))) + (wrap64 ((wrap64 (Int.tdiv (wrap64 ((wrap64 (s0_1 + 1)) - 1)) (s0_0.length : Int))) * 53)))) (wrap64 (Int.tdiv (wrap64 ((wrap64 ((wrap64 ((wrap64 ((wrap64 (rd s0_0 (ji14))) * 131)) + (wrap64 ((wrap64 (rd s0_0 (Int.tmod (wrap64 ((wrap64 ((wrap64 ((wrap64 (s0_1 + 1)) - 1)) * 7)) + 3)) (s0_0.length : Int)))) * 1117)))) + (wrap64 ((wrap64 ((wrap64 (s0_1 + 1)) - 1)) * 29)))) + (wrap64 ((wrap64 (Int.tdiv (wrap64 ((wrap64 (s0_1 + 1)) - 1)) (s0_0.length : Int))) * 53)))) 64))) a1, (wrap64 (s0_1 + 1))))) else (none)) else (none)) else (none)) else (none)) = some (r1, r2) := by first | (rw [hji14] at H; exact H) | (simp only [hji14] at H ⊢; exact H)
      by_cases c15 : 0 ≤ (ji14)
      ·rw [if_pos c15] at H
       have c15b0 : decide (0 ≤ (ji14)) = true := decide_eq_true c15
       clear c15
       by_cases c16 : (ji14) < (s0_0.length : Int)
       ·rw [if_pos c16] at H
        have c16b0 : decide ((ji14) < (s0_0.length : Int)) = true := decide_eq_true c16
        clear c16
        obtain ⟨ji17, hji17⟩ : ∃ j_ : Int, (Int.tmod (wrap64 ((wrap64 ((wrap64 ((wrap64 (s0_1 + 1)) - 1)) * 7)) + 3)) (s0_0.length : Int)) = j_ := ⟨_, rfl⟩
        replace H : (if 0 ≤ (ji17) then (if (ji17) < (s0_0.length : Int) then (if a1 = 0 then (none) else (some (Int.tmod (Go.bits .xor .i64 (wrap64 ((wrap64 ((wrap64 ((wrap64 ((wrap64 (rd s0_0 (ji14))) * 131)) + (wrap64 ((wrap64 (rd s0_0 (ji17))) * 1117)))) + (wrap64 ((wrap64 ((wrap64 (s0_1 + 1)) - 1)) * 29)))) + (wrap64 ((wrap64 (Int.tdiv (wrap64 ((wrap64 (s0_1 + 1)) - 1)) (s0_0.length : Int))) * 53)))) (wrap64 (Int.tdiv (wrap64 ((wrap64 ((wrap64 ((wrap64 ((wrap64 (rd s0_0 (ji14))) * 131)) + (wrap64 ((wrap64 (rd s0_0 (ji17))) * 1117)))) + (wrap64 ((wrap64 ((wrap64 (s0_1 + 1)) - 1)) * 29)))) + (wrap64 ((wrap64 (Int.tdiv (wrap64 ((wrap64 (s0_1 + 1)) - 1)) (s0_0.length : Int))) * 53)))) 64))) a1, (wrap64 (s0_1 + 1))))) else (none)) else (none)) = some (r1, r2) := by first | (rw [hji17] at H; exact H) | (simp only [hji17] at H ⊢; exact H)
        by_cases c18 : 0 ≤ (ji17)
        ·rw [if_pos c18] at H
         have c18b0 : decide (0 ≤ (ji17)) = true := decide_eq_true c18
         clear c18
         by_cases c19 : (ji17) < (s0_0.length : Int)
         ·rw [if_pos c19] at H
          have c19b0 : decide ((ji17) < (s0_0.length : Int)) = true := decide_eq_true c19
          clear c19
          by_cases c20 : a1 = 0
          ·rw [if_pos c20] at H
           exact absurd H (by simp)
          ·rw [if_neg c20] at H
           have c20b0 : (a1 == 0) = false := beq_eq_false_iff_ne.mpr c20
           have c20b1 : (a1 != 0) = true := bne_iff_ne.mpr c20
           simp only [Option.some.injEq, Prod.mk.injEq] at H
           obtain ⟨rfl, rfl⟩ := H
           obtain ⟨ASz21_0, cSz21_0, HGz21, hgz21, HSz21_0⟩ := HI0.out
           have hcz21_0 := cellS116_0 HGz21
           have hcz21_1 := cellS116_1 HGz21
           have hfz21_1 := blk_frozen HGz21 1
           clear HGz21 hgz21
           have p183 : 0 ≤ ((ji14) : Int) := of_decide_eq_true z71_1
           have q183 : (ji14) < (s0_0.length : Int) := of_decide_eq_true z71_1
           obtain ⟨ad183, e183, hx183_0⟩ := Kd.at_int HSz21_0 (ji14) p183 q183
           cases e183
           replace hx183_0 := pw_cell_below HB.out hx183_0
           replace p183 := eq_true p183
           replace q183 := eq_true q183
           have p184 : 0 ≤ ((ji17) : Int) := of_decide_eq_true z71_1
           have q184 : (ji17) < (s0_0.length : Int) := of_decide_eq_true z71_1
           obtain ⟨ad184, e184, hx184_0⟩ := Kd.at_int HSz21_0 (ji17) p184 q184
           obtain rfl : ad183 = ad184 := (by injection e184)
           replace hx184_0 := pw_cell_below HB.out hx184_0
           replace p184 := eq_true p184
           replace q184 := eq_true q184
           go_wp2
           repeat (go_quiet (fail); try go_wp2)
           go_ret
           exact ⟨by first | rfl | (simp [errW_none, errW_some] <;> rfl) | (simp only [← hji14, ← hji17]; first | rfl | (simp [errW_none, errW_some] <;> rfl)) | (simp [*, errW_none, errW_some] <;> rfl), z71_3, z71_4, z71_2⟩
         ·rw [if_neg c19] at H
          exact absurd H (by simp)
        ·rw [if_neg c18] at H
         exact absurd H (by simp)
       ·rw [if_neg c16] at H
        exact absurd H (by simp)
      ·rw [if_neg c15] at H
       exact absurd H (by simp)

end Go.Proofs.Ytefkbmhkhpekjaa.PB

namespace Go.Proofs.Ytefkbmhkhpekjaa.PB
open Go.RowKit Go.Proofs.YtefkbmhkhpekjaaW.PrintWords Go.Proofs.YtefkbmhkhpekjaaW.PrintLast Go.Proofs.YtefkbmhkhpekjaaW.PrintMore
attribute [local go_sem] max2_int min2_int max_two min_two max_three min_three max_four min_four   -- for this text's walks alone
open Go.Proofs.YtefkbmhkhpekjaaMine
set_option linter.unusedVariables false
set_option linter.unusedSimpArgs false

theorem z121_1 {p : Prop} (h : p := by first | rfl | (simp [errW_none, errW_some] <;> rfl) | (simp [*, errW_none, errW_some] <;> rfl)) : p := h
theorem z121_2 {p : Prop} (h : p := by repeat (first | (with_reducible first | exact HK.out | apply KeepBut.set_ | apply keep_drewN | apply keep_drew | apply keep_alloc) | exact HK.out)) : p := h
theorem z121_3 {p : Prop} (h : p := by repeat (first | (with_reducible first | exact HK.out | apply KeepBut.set_ | apply keep_drewN | apply keep_drew | apply keep_alloc | refine keep_far ?_ GW525.out _) | exact HK.out)) : p := h
theorem z121_4 {p : Prop} (h : p := by repeat (first | (with_reducible first | exact HI0.out | apply IsS116.alloc | apply IsS116.drewN | apply IsS116.drew | apply IsS116.set_1 | refine IsS116.far ?_ NB0_525.out _) | exact HI0.out)) : p := h
theorem z121_5 {p : Prop} (h : p := by repeat (first | (with_reducible first | exact HB.out | apply below_alloc | apply pw_below_drewN | apply below_drew1 | refine below_set ?_ (IsS116.ge HI0.out) | refine below_set ?_ GE525.out) | exact HB.out)) : p := h
theorem z121_6 {p : Prop} (h : p := by repeat (first | (with_reducible first | exact HK.out | apply KeepBut.set_ | apply keep_drewN | apply keep_drew | apply keep_alloc | refine keep_far ?_ GW525.out _ | refine keep_far ?_ GW532.out _) | exact HK.out)) : p := h
theorem z121_7 {p : Prop} (h : p := by repeat (first | (with_reducible first | exact HI0.out | apply IsS116.alloc | apply IsS116.drewN | apply IsS116.drew | apply IsS116.set_1 | refine IsS116.far ?_ NB0_525.out _ | refine IsS116.far ?_ NB0_532.out _) | exact HI0.out)) : p := h
theorem z121_8 {p : Prop} (h : p := by repeat (first | (with_reducible first | exact HB.out | apply below_alloc | apply pw_below_drewN | apply below_drew1 | refine below_set ?_ (IsS116.ge HI0.out) | refine below_set ?_ GE525.out | refine below_set ?_ GE532.out) | exact HB.out)) : p := h
theorem z121_9 {p : Prop} (h : p := by (with_reducible repeat (first | refine blk_drewN ?_ _ | refine blk_drew ?_ | refine blk_alloc ?_ _)); refine blk_far ?_ NB525_532.out _; (with_reducible repeat (first | refine blk_drewN ?_ _ | refine blk_drew ?_ | refine blk_alloc ?_ _)); exact BK525.out) : p := h
theorem z121_10 {p : Prop} (h : p := by (with_reducible repeat (first | refine blk_drewN ?_ _ | refine blk_drew ?_ | refine blk_alloc ?_ _)); refine blk_put (cs := #[.int .i64 (rd y526 t529), .int .i64 0, .int .i64 0]) ?_ 1 _ rfl; (with_reducible repeat (first | refine blk_drewN ?_ _ | refine blk_drew ?_ | refine blk_alloc ?_ _)); exact BK532.out) : p := h
theorem z121_11 {p : Prop} (h : p := by (with_reducible repeat (first | refine blk_drewN ?_ _ | refine blk_drew ?_ | refine blk_alloc ?_ _)); refine blk_put (cs := #[.int .i64 (rd y526 t529), .int .i64 0, .int .i64 0]) ?_ 2 _ rfl; (with_reducible repeat (first | refine blk_drewN ?_ _ | refine blk_drew ?_ | refine blk_alloc ?_ _)); refine blk_put (cs := #[.int .i64 (rd y526 t529), .int .i64 0, .int .i64 0]) ?_ 1 _ rfl; (with_reducible repeat (first | refine blk_drewN ?_ _ | refine blk_drew ?_ | refine blk_alloc ?_ _)); refine blk_put (cs := #[.int .i64 0, .int .i64 0, .int .i64 0]) ?_ 0 _ rfl; (with_reducible repeat (first | refine blk_drewN ?_ _ | refine blk_drew ?_ | refine blk_alloc ?_ _)); exact BK532.out) : p := h
theorem z121_12 {p : Prop} (h : p := by (with_reducible repeat (first | refine blk_drewN ?_ _ | refine blk_drew ?_ | refine blk_alloc ?_ _)); refine blk_far ?_ NB525_532.out _; (with_reducible repeat (first | refine blk_drewN ?_ _ | refine blk_drew ?_ | refine blk_alloc ?_ _)); refine blk_far ?_ NB525_532.out _; (with_reducible repeat (first | refine blk_drewN ?_ _ | refine blk_drew ?_ | refine blk_alloc ?_ _)); refine blk_far ?_ NB525_532.out _; (with_reducible repeat (first | refine blk_drewN ?_ _ | refine blk_drew ?_ | refine blk_alloc ?_ _)); exact BK525.out) : p := h
theorem z121_13 {p : Prop} (h : p := by (with_reducible repeat (first | refine blk_drewN ?_ _ | refine blk_drew ?_ | refine blk_alloc ?_ _)); refine blk_put (cs := #[.int .i64 (rd y526 t529), .int .i64 0, .int .i64 0]) ?_ 2 _ rfl; (with_reducible repeat (first | refine blk_drewN ?_ _ | refine blk_drew ?_ | refine blk_alloc ?_ _)); refine blk_put (cs := #[.int .i64 (rd y526 t529), .int .i64 0, .int .i64 0]) ?_ 1 _ rfl; (with_reducible repeat (first | refine blk_drewN ?_ _ | refine blk_drew ?_ | refine blk_alloc ?_ _)); refine blk_put (cs := #[.int .i64 0, .int .i64 0, .int .i64 0]) ?_ 0 _ rfl; (with_reducible repeat (first | refine blk_drewN ?_ _ | refine blk_drew ?_ | refine blk_alloc ?_ _)); refine blk_far ?_ NB525_532.out _; (with_reducible repeat (first | refine blk_drewN ?_ _ | refine blk_drew ?_ | refine blk_alloc ?_ _)); exact BK525.out) : p := h
theorem z121_14 {p : Prop} (h : p := by (with_reducible repeat (first | refine blk_drewN ?_ _ | refine blk_drew ?_ | refine blk_alloc ?_ _)); refine blk_put (cs := #[.int .i64 (rd y526 t529), .int .i64 t535, .int .i64 0]) ?_ 2 _ rfl; (with_reducible repeat (first | refine blk_drewN ?_ _ | refine blk_drew ?_ | refine blk_alloc ?_ _)); refine blk_put (cs := #[.int .i64 (rd y526 t529), .int .i64 0, .int .i64 0]) ?_ 1 _ rfl; (with_reducible repeat (first | refine blk_drewN ?_ _ | refine blk_drew ?_ | refine blk_alloc ?_ _)); refine blk_put (cs := #[.int .i64 0, .int .i64 0, .int .i64 0]) ?_ 0 _ rfl; (with_reducible repeat (first | refine blk_drewN ?_ _ | refine blk_drew ?_ | refine blk_alloc ?_ _)); refine blk_far ?_ NB525_532.out _; (with_reducible repeat (first | refine blk_drewN ?_ _ | refine blk_drew ?_ | refine blk_alloc ?_ _)); exact BK525.out) : p := h
/-! ### spec_l71Do: function 121 -/
def spec_l71Do.j0 : Nat → Int → Bool → List Int → Int → Int → Int → Int → Option (Int × Int × Int × Int)
  | 0, _, _, _, _, _, _, _ => none
  | k + 1, x1, x17, x1000, x1001, x533000, x533001, x533002 => if x17 = true then ((spec_l6Rd_pick.f k x1000 x1001 x1).bind fun bt535 => (if x533000 = 1 then ((spec_l6Rd_pick.f k x1000 bt535.2 3).bind fun bt537 => (some (x533000, bt535.1, wrap64 (1 + bt537.1), bt537.2))) else (if x533000 = 6 then ((spec_l6Rd_pick.f k x1000 bt535.2 3).bind fun bt539 => (some (x533000, bt535.1, wrap64 (1 + bt539.1), bt539.2))) else (some (x533000, bt535.1, x533002, bt535.2))))) else (if x533000 = 1 then ((spec_l6Rd_pick.f k x1000 x1001 3).bind fun bt541 => (some (x533000, x533001, wrap64 (1 + bt541.1), bt541.2))) else (if x533000 = 6 then ((spec_l6Rd_pick.f k x1000 x1001 3).bind fun bt543 => (some (x533000, x533001, wrap64 (1 + bt543.1), bt543.2))) else (some (x533000, x533001, x533002, x1001))))
def spec_l71Do.f (k : Nat) (s0_0 : List Int) (s0_1 : Int) (a1 : Int) : Option (Int × Int × Int × Int) := (some (([1, 1, 1, 2, 2, 2, 3, 4, 5, 6] : List Int) : List Int)).bind fun y526 => ((spec_l6Rd_pick.f k s0_0 s0_1 10).bind fun bt529 => (if 0 ≤ bt529.1 then (if bt529.1 < (y526.length : Int) then ((spec_l1Reads.f (rd y526 bt529.1) 0 0).bind fun t533 => (if t533 = true then (spec_l71Do.j0 k a1 true s0_0 bt529.2 (rd y526 bt529.1) 0 0) else ((spec_l1Writes.f (rd y526 bt529.1) 0 0).bind fun t534 => (spec_l71Do.j0 k a1 t534 s0_0 bt529.2 (rd y526 bt529.1) 0 0)))) else (none)) else (none)))
theorem spec_l71Do.mono_l : ∀ k, (∀ y0 y1 y2 y3 y4 y5 y6, LeO (spec_l71Do.j0 k y0 y1 y2 y3 y4 y5 y6) (spec_l71Do.j0 (k + 1) y0 y1 y2 y3 y4 y5 y6))
  | 0 => fun _ _ _ _ _ _ _ r h => by simp [spec_l71Do.j0] at h
  | k + 1 => by
    have ih0 := spec_l71Do.mono_l k
    · intro y0 y1 y2 y3 y4 y5 y6
      unfold spec_l71Do.j0
      repeat' first
      | (with_reducible exact ih0 _ _ _ _ _ _ _)
      | (with_reducible exact spec_l6Rd_pick.mono _ _ _ _)
      | (with_reducible exact LeO.refl _)
      | (with_reducible exact LeO.none _)
      | (with_reducible refine LeO.ite ?_ ?_)
      | (with_reducible refine LeO.bind ?_ (fun _ => ?_))
      | exact ih0 _ _ _ _ _ _ _
      | exact spec_l6Rd_pick.mono _ _ _ _
      | exact LeO.none _
      | refine LeO.ite ?_ ?_
      | refine LeO.bind ?_ (fun _ => ?_)
theorem spec_l71Do.mono : ∀ a0 a1 a2 k, LeO (spec_l71Do.f k a0 a1 a2) (spec_l71Do.f (k + 1) a0 a1 a2) := by
  intro a0 a1 a2 k
  have ih0 := spec_l71Do.mono_l k
  unfold spec_l71Do.f
  repeat' first
      | (with_reducible exact ih0 _ _ _ _ _ _ _)
      | (with_reducible exact spec_l6Rd_pick.mono _ _ _ _)
      | (with_reducible exact LeO.refl _)
      | (with_reducible exact LeO.none _)
      | (with_reducible refine LeO.ite ?_ ?_)
      | (with_reducible refine LeO.bind ?_ (fun _ => ?_))
      | exact ih0 _ _ _ _ _ _ _
      | exact spec_l6Rd_pick.mono _ _ _ _
      | exact LeO.none _
      | refine LeO.ite ?_ ?_
      | refine LeO.bind ?_ (fun _ => ?_)
set_option maxHeartbeats 8000000 in
set_option maxRecDepth 100000 in
theorem spec_l71Do.calls (k : Nat) (g : Nat) (s0_0 : List Int) (s0_1 : Int) (a1 : Int) (r1 : Int) (r2 : Int) (r3 : Int) (r4 : Int) (w0 w : World) (hI : IsS116 w0 w g s0_0 s0_1) (hB : Below w0.heap.size w0 w) (h : spec_l71Do.f k s0_0 s0_1 a1 = some (r1, r2, r3, r4)) :
  Calls Try.prog 121 #[.pointer (some ⟨g, 0, none⟩), .int .i64 a1] w fun e w' => e = .returned (.agg #[.int .i64 r1, .int .i64 r2, .int .i64 r3]) ∧ IsS116 w0 w' g s0_0 r4 ∧ Below w0.heap.size w0 w' ∧ KeepBut w w' g none := by
 have hu85 := Try.underlying85
 have HI0 := am_ hI
 have HK := am_ (KeepBut.refl w g none)
 have HL := am_ hB.size
 clear hI
 have HW0 := am_ hB.size
 have HB := am_ hB
 clear hB
 have H : ((some (([1, 1, 1, 2, 2, 2, 3, 4, 5, 6] : List Int) : List Int)).bind fun y526 => ((spec_l6Rd_pick.f k s0_0 s0_1 10).bind fun bt529 => (if 0 ≤ bt529.1 then (if bt529.1 < (y526.length : Int) then ((spec_l1Reads.f (rd y526 bt529.1) 0 0).bind fun t533 => (if t533 = true then (spec_l71Do.j0 k a1 true s0_0 bt529.2 (rd y526 bt529.1) 0 0) else ((spec_l1Writes.f (rd y526 bt529.1) 0 0).bind fun t534 => (spec_l71Do.j0 k a1 t534 s0_0 bt529.2 (rd y526 bt529.1) 0 0)))) else (none)) else (none)))) = some (r1, r2, r3, r4) := h
 clear h
 obtain ⟨y526, hy526⟩ : ∃ y_ : List Int, y_ = (([1, 1, 1, 2, 2, 2, 3, 4, 5, 6] : List Int)) := ⟨_, rfl⟩
 replace H : ((spec_l6Rd_pick.f k s0_0 s0_1 10).bind fun bt529 => (if 0 ≤ bt529.1 then (if bt529.1 < (y526.length : Int) then ((spec_l1Reads.f (rd y526 bt529.1) 0 0).bind fun t533 => (if t533 = true then (spec_l71Do.j0 k a1 true s0_0 bt529.2 (rd y526 bt529.1) 0 0) else ((spec_l1Writes.f (rd y526 bt529.1) 0 0).bind fun t534 => (spec_l71Do.j0 k a1 t534 s0_0 bt529.2 (rd y526 bt529.1) 0 0)))) else (none)) else (none))) = some (r1, r2, r3, r4) := by first | (rw [hy526]; with_reducible exact H) | (have H2_ := (Option.bind_some _ _).symm.trans H; rw [hy526]; with_reducible exact H2_) | (have H2_ := (Option.bind_some _ _).symm.trans H; with_reducible exact H2_) | with_reducible exact H | (rw [hy526]; exact H) | exact H
 have Ny526 := am_ hy526
 clear hy526
 replace H := Option.bind_eq_some_iff.mp H
 obtain ⟨⟨t529, t530⟩, A30, H⟩ := H
 replace H : (if 0 ≤ t529 then (if t529 < (y526.length : Int) then ((spec_l1Reads.f (rd y526 t529) 0 0).bind fun t533 => (if t533 = true then (spec_l71Do.j0 k a1 true s0_0 t530 (rd y526 t529) 0 0) else ((spec_l1Writes.f (rd y526 t529) 0 0).bind fun t534 => (spec_l71Do.j0 k a1 t534 s0_0 t530 (rd y526 t529) 0 0)))) else (none)) else (none)) = some (r1, r2, r3, r4) := H
 have A3 := am_ A30
 clear A30
 by_cases c4 : 0 ≤ t529
 ·rw [if_pos c4] at H
  have c4b0 : decide (0 ≤ t529) = true := decide_eq_true c4
  clear c4
  by_cases c5 : t529 < (y526.length : Int)
  ·rw [if_pos c5] at H
   have c5b0 : decide (t529 < (y526.length : Int)) = true := decide_eq_true c5
   clear c5
   have HC6 := am_ H
   clear H
   go_enter Try.func121, Try.ntmps121
   go_upto_region 2 with (first | ((with_reducible refine gate_dst (N := 4) rfl ?_); refine box_event ?hg (N := 4) ?hd (cs := #[.int .i64 0, .int .i64 0, .int .i64 0]) (t := 85) ?hr ?_; (case hd => rfl); (case hg => rfl); (case hr => first | (go_simp; done) | (go_simp; rfl)); intro gb525 hg w7 hbox hb; have n0_ := am_ (IsS116.below (by repeat (first | (with_reducible first | exact HI0.out | apply IsS116.alloc | apply IsS116.drewN | apply IsS116.drew | apply IsS116.set_1) | exact HI0.out)) hb); have n1_ := am_ (KeepBut.trans z121_2 (KeepBut.of_below hb g none) (.inl rfl)); have n2_ := am_ (below_step (by repeat (first | (with_reducible first | exact HB.out | apply below_alloc | apply pw_below_drewN | apply below_drew1 | refine below_set ?_ (IsS116.ge HI0.out)) | exact HB.out)) hb); have n3_ := am_ (hbox); have n4_ := am_ (by rw [hg]; exact (keep_size (w := w) (g := g) (row := none) z121_2) : w.heap.size ≤ gb525); have n5_ := am_ (Nat.le_trans HW0.out (by rw [hg]; exact (keep_size (w := w) (g := g) (row := none) z121_2) : w.heap.size ≤ gb525) : w0.heap.size ≤ gb525); have n6_ := am_ (by rw [hg]; exact Nat.ne_of_lt (IsS116.lt (show IsS116 w0 _ g s0_0 s0_1 from by repeat (first | (with_reducible first | exact HI0.out | apply IsS116.alloc | apply IsS116.drewN | apply IsS116.drew | apply IsS116.set_1) | exact HI0.out))) : g ≠ gb525); have n7_ := am_ (by rw [hg]; exact Nat.ne_of_gt (IsS116.lt (show IsS116 w0 _ g s0_0 s0_1 from by repeat (first | (with_reducible first | exact HI0.out | apply IsS116.alloc | apply IsS116.drewN | apply IsS116.drew | apply IsS116.set_1) | exact HI0.out))) : gb525 ≠ g); clear HI0 HK HB; have HI0 := n0_; have HK := n1_; have HB := n2_; have BK525 := n3_; have GW525 := n4_; have GE525 := n5_; have NB0_525 := n6_; have NB525_0 := n7_; clear n0_ n1_ n2_ n3_ n4_ n5_ n6_ n7_; clear hb hbox hg) | ((with_reducible refine gate_dst (N := 6) rfl ?_); refine Kd.R_lit (Kd.int .i64) _ 3 ?hg (N := 6) ?hd (xs := ([1, 1, 1, 2, 2, 2, 3, 4, 5, 6] : List Int)) (inner := [.int .i64 1, .int .i64 1, .int .i64 1, .int .i64 2, .int .i64 2, .int .i64 2, .int .i64 3, .int .i64 4, .int .i64 5, .int .i64 6]) (ok := fun _ => True) (okp := fun _ => True) ?hr ?hp (fun _ hk => hk) trivial (Below.refl _ _) (Nat.le_refl _) (by simp) ?_; (case hd => rfl); (case hg => rfl); (case hr => first | (go_simp; done) | (go_simp; rfl)); (case hp => exact (Reps.one (show Kd.M (Kd.int .i64) _ _ _ 1 [.int .i64 1] from rfl) (Reps.one (show Kd.M (Kd.int .i64) _ _ _ 1 [.int .i64 1] from rfl) (Reps.one (show Kd.M (Kd.int .i64) _ _ _ 1 [.int .i64 1] from rfl) (Reps.one (show Kd.M (Kd.int .i64) _ _ _ 2 [.int .i64 2] from rfl) (Reps.one (show Kd.M (Kd.int .i64) _ _ _ 2 [.int .i64 2] from rfl) (Reps.one (show Kd.M (Kd.int .i64) _ _ _ 2 [.int .i64 2] from rfl) (Reps.one (show Kd.M (Kd.int .i64) _ _ _ 3 [.int .i64 3] from rfl) (Reps.one (show Kd.M (Kd.int .i64) _ _ _ 4 [.int .i64 4] from rfl) (Reps.one (show Kd.M (Kd.int .i64) _ _ _ 5 [.int .i64 5] from rfl) (Reps.one (show Kd.M (Kd.int .i64) _ _ _ 6 [.int .i64 6] from rfl) (Reps.none _ _)))))))))))); intro v527 w8 ho9 hb hg_ hnew_; clear hg_ hnew_; (first | rw [← Ny526.out] at ho9 | (simp only [Int.reduceToNat] at ho9; rw [← Ny526.out] at ho9)); have n0_ := am_ (Kd.R_lower ho9 (keep_size (w := w) (g := g) (row := none) z121_3)); have n1_ := am_ (IsS116.below z121_4 hb); have n2_ := am_ (blk_below (bu BK525.out) hb); have n3_ := am_ (KeepBut.trans z121_3 (KeepBut.of_below hb g none) (.inl rfl)); have n4_ := am_ (below_step z121_5 hb); clear HI0 BK525 HK HB; have HO528 := n0_; have HI0 := n1_; have BK525 := n2_; have HK := n3_; have HB := n4_; clear n0_ n1_ n2_ n3_ n4_; clear hb ho9) | ((with_reducible refine gate_callee (f := 71) rfl ?_); refine goesL_ (some 8) rfl rfl Try.func71 (by kernel_rfl) rfl #[.pointer (some ⟨g, 0, none⟩), .int .i64 10] rfl (by (try simp only [List.map_toArray, List.map_cons, List.map_nil]); first | done | rfl | (simp only [List.length_drop, List.length_take]; rfl)) ?_; (with_reducible refine (spec_l6Rd_pick.calls k g s0_0 s0_1 10 t529 t530 w0 _ ?side1 ?side2 A3.out).mono ?_); (case side1 => repeat (first | (with_reducible first | exact HI0.out | apply IsS116.alloc | apply IsS116.drewN | apply IsS116.drew | apply IsS116.set_1 | refine IsS116.far ?_ NB0_525.out _) | exact HI0.out)); (case side2 => repeat (first | (with_reducible first | exact HB.out | apply below_alloc | apply pw_below_drewN | apply below_drew1 | refine below_set ?_ (IsS116.ge HI0.out) | refine below_set ?_ GE525.out) | exact HB.out)); rintro e w10 ⟨rfl, hi, hb, hk⟩; refine ⟨_, rfl, ?_⟩; have n0_ := am_ (KeepBut.blk hk (bu BK525.out) NB525_0.out (by simp)); have n1_ := am_ (Kd.R_mono (Kd.R_keep (IsS116.apart (show IsS116 w0 _ g s0_0 s0_1 from by repeat (first | (with_reducible first | exact HI0.out | apply IsS116.alloc | apply IsS116.drewN | apply IsS116.drew | apply IsS116.set_1 | refine IsS116.far ?_ NB0_525.out _) | exact HI0.out)) (ru HO528.out) (by decide)) hk (fun _ h => h.2)) (fun _ h => h.1)); have n2_ := am_ (KeepBut.trans z121_3 hk (.inl rfl)); have n3_ := am_ (hb); have n4_ := am_ (hi); clear BK525 HO528 HK HB HI0; have BK525 := n0_; have HO528 := n1_; have HK := n2_; have HB := n3_; have HI0 := n4_; clear n0_ n1_ n2_ n3_ n4_; (try clear hb); (try clear hb2); (try clear hk); (try clear hi); obtain ⟨Ao11, co11, eo11⟩ := Kd.R_slice HO528.out; subst eo11; have p531 : 0 ≤ (t529 : Int) := of_decide_eq_true (by first | (with_reducible assumption) | assumption); have q531 : t529 < (y526.length : Int) := of_decide_eq_true (by first | (with_reducible assumption) | assumption); obtain ⟨ad531, e531, hx531_0⟩ := Kd.at_int (Kd.R_reads' HO528.out).2.2 t529 p531 q531; cases e531; replace p531 := eq_true p531; replace q531 := eq_true q531) | ((with_reducible refine gate_dst (N := 5) rfl ?_); refine box_event ?hg (N := 5) ?hd (cs := #[.int .i64 0, .int .i64 0, .int .i64 0]) (t := 85) ?hr ?_; (case hd => rfl); (case hg => rfl); (case hr => first | (go_simp; done) | (go_simp; rfl)); intro gb532 hg w12 hbox hb; have n0_ := am_ (Kd.R_below (ru HO528.out) hb); have n1_ := am_ (IsS116.below z121_4 hb); have n2_ := am_ (blk_below (bu BK525.out) hb); have n3_ := am_ (KeepBut.trans z121_3 (KeepBut.of_below hb g none) (.inl rfl)); have n4_ := am_ (below_step z121_5 hb); have n5_ := am_ (hbox); have n6_ := am_ (by rw [hg]; exact (keep_size (w := w) (g := g) (row := none) z121_3) : w.heap.size ≤ gb532); have n7_ := am_ (Nat.le_trans HW0.out (by rw [hg]; exact (keep_size (w := w) (g := g) (row := none) z121_3) : w.heap.size ≤ gb532) : w0.heap.size ≤ gb532); have n8_ := am_ (by rw [hg]; exact Nat.ne_of_lt (blk_lt (bu BK525.out)) : gb525 ≠ gb532); have n9_ := am_ (by rw [hg]; exact Nat.ne_of_gt (blk_lt (bu BK525.out)) : gb532 ≠ gb525); have n10_ := am_ (by rw [hg]; exact Nat.ne_of_lt (IsS116.lt (show IsS116 w0 _ g s0_0 t530 from by repeat (first | (with_reducible first | exact HI0.out | apply IsS116.alloc | apply IsS116.drewN | apply IsS116.drew | apply IsS116.set_1 | refine IsS116.far ?_ NB0_525.out _) | exact HI0.out))) : g ≠ gb532); have n11_ := am_ (by rw [hg]; exact Nat.ne_of_gt (IsS116.lt (show IsS116 w0 _ g s0_0 t530 from by repeat (first | (with_reducible first | exact HI0.out | apply IsS116.alloc | apply IsS116.drewN | apply IsS116.drew | apply IsS116.set_1 | refine IsS116.far ?_ NB0_525.out _) | exact HI0.out))) : gb532 ≠ g); clear HO528 HI0 BK525 HK HB; have HO528 := n0_; have HI0 := n1_; have BK525 := n2_; have HK := n3_; have HB := n4_; have BK532 := n5_; have GW532 := n6_; have GE532 := n7_; have NB525_532 := n8_; have NB532_525 := n9_; have NB0_532 := n10_; have NB532_0 := n11_; clear n0_ n1_ n2_ n3_ n4_ n5_ n6_ n7_ n8_ n9_ n10_ n11_; clear hb hbox hg; have hnb13 := NB532_525.out; have hnc13 := NB525_532.out; have hnb14 := NB532_0.out; have hnc14 := NB0_532.out; have hcz15_0 : w12.cell? ⟨gb532, 0, none⟩ = some (.int .i64 0) := (blk_cell BK532.out 0).trans rfl; have hcz15_1 : w12.cell? ⟨gb532, 1, none⟩ = some (.int .i64 0) := (blk_cell BK532.out 1).trans rfl; have hcz15_2 : w12.cell? ⟨gb532, 2, none⟩ = some (.int .i64 0) := (blk_cell BK532.out 2).trans rfl; have hfz15_0 := blk_frozen BK532.out 0; have hfz15_1 := blk_frozen BK532.out 1; have hfz15_2 := blk_frozen BK532.out 2))
   (try simp only [Act.put, List.setIfInBounds_toArray, List.set_cons_zero, List.set_cons_succ])
   go_cut [17] (fun v17 wc => ∃ (kq : Nat) (x17_5 : Bool), v17 = .bool x17_5 ∧ Aside0 (spec_l71Do.j0 kq a1 x17_5 s0_0 t530 (rd y526 t529) 0 0 = some (r1, r2, r3, r4)) ∧ Aside0 (kq ≤ k) ∧ Aside0 (wc.heap[gb525]? = some (.cells #[.int .i64 0, .int .i64 0, .int .i64 0] 85 (0, 0))) ∧ Aside0 (wc.heap[gb532]? = some (.cells #[.int .i64 (rd y526 t529), .int .i64 0, .int .i64 0] 85 (0, 0))) ∧ Aside0 (IsS116 w0 wc g s0_0 t530) ∧ Aside0 (KeepBut w wc g none) ∧ Aside0 (Below w0.heap.size w0 wc))
   case first =>
    have H := HC6.out
    clear HC6
    replace H := Option.bind_eq_some_iff.mp H
    obtain ⟨t533, A160, H⟩ := H
    replace H : (if t533 = true then (spec_l71Do.j0 k a1 true s0_0 t530 (rd y526 t529) 0 0) else ((spec_l1Writes.f (rd y526 t529) 0 0).bind fun t534 => (spec_l71Do.j0 k a1 t534 s0_0 t530 (rd y526 t529) 0 0))) = some (r1, r2, r3, r4) := H
    have A16 := am_ A160
    clear A160
    by_cases c17 : t533 = true
    ·subst c17
     have H1 : (spec_l71Do.j0 k a1 true s0_0 t530 (rd y526 t529) 0 0) = some (r1, r2, r3, r4) := by rw [if_pos rfl] at H; exact H
     clear H
     have H := H1
     clear H1
     have H' := am_ H
     clear H
     have hnb18 := NB532_525.out
     have hnc18 := NB525_532.out
     have hnb19 := NB532_0.out
     have hnc19 := NB0_532.out
     have hcz20_0 : w12.cell? ⟨gb532, 0, none⟩ = some (.int .i64 0) := (blk_cell BK532.out 0).trans rfl
     have hcz20_1 : w12.cell? ⟨gb532, 1, none⟩ = some (.int .i64 0) := (blk_cell BK532.out 1).trans rfl
     have hcz20_2 : w12.cell? ⟨gb532, 2, none⟩ = some (.int .i64 0) := (blk_cell BK532.out 2).trans rfl
     have hfz20_0 := blk_frozen BK532.out 0
     have hfz20_1 := blk_frozen BK532.out 1
     have hfz20_2 := blk_frozen BK532.out 2
     go_wp2_with (first | ((with_reducible refine gate_callee (f := 87) rfl ?_); refine goesL_ (some 13) rfl rfl Try.func87 (by kernel_rfl) rfl #[.agg #[.int .i64 (rd y526 t529), .int .i64 0, .int .i64 0]] rfl (by (try simp only [List.map_toArray, List.map_cons, List.map_nil]); first | done | rfl | (simp only [List.length_drop, List.length_take]; rfl)) ?_; (with_reducible refine (spec_l1Reads.calls (rd y526 t529) 0 0 true _ A16.out).mono ?_); rintro e w21 ⟨rfl, hb⟩; refine ⟨_, rfl, ?_⟩; have n0_ := am_ (Kd.R_below (ru (Kd.R_mono (Kd.R_far (p := ⟨gb532, 2, none⟩) (Kd.R_far (p := ⟨gb532, 1, none⟩) (Kd.R_far (p := ⟨gb532, 0, none⟩) (Kd.R_types HO528.out BK532.out (by decide)) (fun _ hk => hk.2) (.int .i64 (rd y526 t529))) (fun _ hk => hk.2) (.int .i64 0)) (fun _ hk => hk.2) (.int .i64 0)) (fun _ h_ => h_.1))) hb); have n1_ := am_ (IsS116.below (show IsS116 w0 (((w12.setCell ⟨gb532, 0, none⟩ (.int .i64 (rd y526 t529))).setCell ⟨gb532, 1, none⟩ (.int .i64 0)).setCell ⟨gb532, 2, none⟩ (.int .i64 0)) g s0_0 t530 from by repeat (first | (with_reducible first | exact HI0.out | apply IsS116.alloc | apply IsS116.drewN | apply IsS116.drew | apply IsS116.set_1 | refine IsS116.far ?_ NB0_525.out _ | refine IsS116.far ?_ NB0_532.out _) | exact HI0.out)) hb); have n2_ := am_ (blk_below (g := gb525) (o := .cells #[.int .i64 0, .int .i64 0, .int .i64 0] 85 (0, 0)) z121_12 hb); have n3_ := am_ (blk_below (g := gb532) (o := .cells #[.int .i64 (rd y526 t529), .int .i64 0, .int .i64 0] 85 (0, 0)) z121_11 hb); have n4_ := am_ (KeepBut.trans z121_6 (KeepBut.of_below hb g none) (.inl rfl)); have n5_ := am_ (below_step z121_8 hb); clear HO528 HI0 BK525 BK532 HK HB; have HO528 := n0_; have HI0 := n1_; have BK525 := n2_; have BK532 := n3_; have HK := n4_; have HB := n5_; clear n0_ n1_ n2_ n3_ n4_ n5_; (try clear hb); (try clear hb2); (try clear hk); (try clear hi)))
     go_meet
     case rel => exact ⟨_, (true), (by first | rfl | (simp; done) | (simp [*]; done)), H', ⟨by first | omega | exact Nat.le_refl _⟩, ⟨bu BK525.out⟩, ⟨bu BK532.out⟩, ⟨z121_7⟩, ⟨z121_6⟩, ⟨z121_8⟩⟩
    ·replace c17 := Bool.eq_false_iff.mpr c17
     subst c17
     have H1 : ((spec_l1Writes.f (rd y526 t529) 0 0).bind fun t534 => (spec_l71Do.j0 k a1 t534 s0_0 t530 (rd y526 t529) 0 0)) = some (r1, r2, r3, r4) := by rw [if_neg (show ¬ (false = true) by decide)] at H; exact H
     clear H
     have H := H1
     clear H1
     replace H := Option.bind_eq_some_iff.mp H
     obtain ⟨t534, A220, H⟩ := H
     replace H : (spec_l71Do.j0 k a1 t534 s0_0 t530 (rd y526 t529) 0 0) = some (r1, r2, r3, r4) := H
     have A22 := am_ A220
     clear A220
     have H' := am_ H
     clear H
     have hnb23 := NB532_525.out
     have hnc23 := NB525_532.out
     have hnb24 := NB532_0.out
     have hnc24 := NB0_532.out
     have hcz25_0 : w12.cell? ⟨gb532, 0, none⟩ = some (.int .i64 0) := (blk_cell BK532.out 0).trans rfl
     have hcz25_1 : w12.cell? ⟨gb532, 1, none⟩ = some (.int .i64 0) := (blk_cell BK532.out 1).trans rfl
     have hcz25_2 : w12.cell? ⟨gb532, 2, none⟩ = some (.int .i64 0) := (blk_cell BK532.out 2).trans rfl
     have hfz25_0 := blk_frozen BK532.out 0
     have hfz25_1 := blk_frozen BK532.out 1
     have hfz25_2 := blk_frozen BK532.out 2
     go_wp2_with (first | ((with_reducible refine gate_callee (f := 87) rfl ?_); refine goesL_ (some 13) rfl rfl Try.func87 (by kernel_rfl) rfl #[.agg #[.int .i64 (rd y526 t529), .int .i64 0, .int .i64 0]] rfl (by (try simp only [List.map_toArray, List.map_cons, List.map_nil]); first | done | rfl | (simp only [List.length_drop, List.length_take]; rfl)) ?_; (with_reducible refine (spec_l1Reads.calls (rd y526 t529) 0 0 false _ A16.out).mono ?_); rintro e w26 ⟨rfl, hb⟩; refine ⟨_, rfl, ?_⟩; have n0_ := am_ (Kd.R_below (ru (Kd.R_mono (Kd.R_far (p := ⟨gb532, 2, none⟩) (Kd.R_far (p := ⟨gb532, 1, none⟩) (Kd.R_far (p := ⟨gb532, 0, none⟩) (Kd.R_types HO528.out BK532.out (by decide)) (fun _ hk => hk.2) (.int .i64 (rd y526 t529))) (fun _ hk => hk.2) (.int .i64 0)) (fun _ hk => hk.2) (.int .i64 0)) (fun _ h_ => h_.1))) hb); have n1_ := am_ (IsS116.below (show IsS116 w0 (((w12.setCell ⟨gb532, 0, none⟩ (.int .i64 (rd y526 t529))).setCell ⟨gb532, 1, none⟩ (.int .i64 0)).setCell ⟨gb532, 2, none⟩ (.int .i64 0)) g s0_0 t530 from by repeat (first | (with_reducible first | exact HI0.out | apply IsS116.alloc | apply IsS116.drewN | apply IsS116.drew | apply IsS116.set_1 | refine IsS116.far ?_ NB0_525.out _ | refine IsS116.far ?_ NB0_532.out _) | exact HI0.out)) hb); have n2_ := am_ (blk_below (g := gb525) (o := .cells #[.int .i64 0, .int .i64 0, .int .i64 0] 85 (0, 0)) z121_12 hb); have n3_ := am_ (blk_below (g := gb532) (o := .cells #[.int .i64 (rd y526 t529), .int .i64 0, .int .i64 0] 85 (0, 0)) z121_11 hb); have n4_ := am_ (KeepBut.trans z121_6 (KeepBut.of_below hb g none) (.inl rfl)); have n5_ := am_ (below_step z121_8 hb); clear HO528 HI0 BK525 BK532 HK HB; have HO528 := n0_; have HI0 := n1_; have BK525 := n2_; have BK532 := n3_; have HK := n4_; have HB := n5_; clear n0_ n1_ n2_ n3_ n4_ n5_; (try clear hb); (try clear hb2); (try clear hk); (try clear hi); have hcz27_0 : w26.cell? ⟨gb532, 0, none⟩ = some (.int .i64 (rd y526 t529)) := (blk_cell BK532.out 0).trans rfl; have hcz27_1 : w26.cell? ⟨gb532, 1, none⟩ = some (.int .i64 0) := (blk_cell BK532.out 1).trans rfl; have hcz27_2 : w26.cell? ⟨gb532, 2, none⟩ = some (.int .i64 0) := (blk_cell BK532.out 2).trans rfl; have hfz27_0 := blk_frozen BK532.out 0; have hfz27_1 := blk_frozen BK532.out 1; have hfz27_2 := blk_frozen BK532.out 2) | (go_at_call 88; (with_reducible refine (spec_l1Writes.calls (rd y526 t529) 0 0 t534 _ A22.out).mono ?_); rintro e w28 ⟨rfl, hb⟩; have n0_ := am_ (Kd.R_below (ru HO528.out) hb); have n1_ := am_ (IsS116.below z121_7 hb); have n2_ := am_ (blk_below (bu BK525.out) hb); have n3_ := am_ (blk_below (bu BK532.out) hb); have n4_ := am_ (KeepBut.trans z121_6 (KeepBut.of_below hb g none) (.inl rfl)); have n5_ := am_ (below_step z121_8 hb); clear HO528 HI0 BK525 BK532 HK HB; have HO528 := n0_; have HI0 := n1_; have BK525 := n2_; have BK532 := n3_; have HK := n4_; have HB := n5_; clear n0_ n1_ n2_ n3_ n4_ n5_; (try clear hb); (try clear hb2); (try clear hk); (try clear hi)))
     go_meet
     case rel => exact ⟨_, (t534), (by first | rfl | (simp; done) | (simp [*]; done)), H', ⟨by first | omega | exact Nat.le_refl _⟩, ⟨bu BK525.out⟩, ⟨bu BK532.out⟩, ⟨z121_7⟩, ⟨z121_6⟩, ⟨z121_8⟩⟩
   case rest =>
    clear HC6
    obtain ⟨kq, x17_5, rfl, HA, HJ5, BK525, BK532, HI0, HK, HB⟩ := hcut
    cases kq with
    | zero => exact absurd HA.out (by simp [spec_l71Do.j0])
    | succ kj5 =>
     have H := HA.out
     clear HA
     simp only [spec_l71Do.j0] at H
     by_cases c29 : x17_5 = true
     ·subst c29
      have H1 : ((spec_l6Rd_pick.f kj5 s0_0 t530 a1).bind fun bt535 => (if (rd y526 t529) = 1 then ((spec_l6Rd_pick.f kj5 s0_0 bt535.2 3).bind fun bt537 => (some ((rd y526 t529), bt535.1, wrap64 (1 + bt537.1), bt537.2))) else (if (rd y526 t529) = 6 then ((spec_l6Rd_pick.f kj5 s0_0 bt535.2 3).bind fun bt539 => (some ((rd y526 t529), bt535.1, wrap64 (1 + bt539.1), bt539.2))) else (some ((rd y526 t529), bt535.1, 0, bt535.2))))) = some (r1, r2, r3, r4) := by rw [if_pos rfl] at H; exact H
      clear H
      have H := H1
      clear H1
      replace H := Option.bind_eq_some_iff.mp H
      obtain ⟨⟨t535, t536⟩, A300, H⟩ := H
      replace H : (if (rd y526 t529) = 1 then ((spec_l6Rd_pick.f kj5 s0_0 t536 3).bind fun bt537 => (some ((rd y526 t529), t535, wrap64 (1 + bt537.1), bt537.2))) else (if (rd y526 t529) = 6 then ((spec_l6Rd_pick.f kj5 s0_0 t536 3).bind fun bt539 => (some ((rd y526 t529), t535, wrap64 (1 + bt539.1), bt539.2))) else (some ((rd y526 t529), t535, 0, t536)))) = some (r1, r2, r3, r4) := H
      have A30 := am_ A300
      clear A300
      by_cases c31 : (rd y526 t529) = 1
      ·rw [if_pos c31] at H
       have c31b0 : ((rd y526 t529) == 1) = true := beq_iff_eq.mpr c31
       have c31b1 : ((rd y526 t529) != 1) = false := bne_eq_false_iff_eq.mpr c31
       clear c31
       replace H := Option.bind_eq_some_iff.mp H
       obtain ⟨⟨t537, t538⟩, A320, H⟩ := H
       replace H : (some ((rd y526 t529), t535, wrap64 (1 + t537), t538)) = some (r1, r2, r3, r4) := H
       have A32 := am_ A320
       clear A320
       simp only [Option.some.injEq, Prod.mk.injEq] at H
       obtain ⟨rfl, rfl, rfl, rfl⟩ := H
       go_wp2_with (first | ((with_reducible refine gate_callee (f := 71) rfl ?_); refine goesL_ (some 20) rfl rfl Try.func71 (by kernel_rfl) rfl #[.pointer (some ⟨g, 0, none⟩), .int .i64 a1] rfl (by (try simp only [List.map_toArray, List.map_cons, List.map_nil]); first | done | rfl | (simp only [List.length_drop, List.length_take]; rfl)) ?_; (with_reducible refine (spec_l6Rd_pick.calls kj5 g s0_0 t530 a1 t535 t536 w0 _ ?side1 ?side2 A30.out).mono ?_); (case side1 => repeat (first | (with_reducible first | exact HI0.out | apply IsS116.alloc | apply IsS116.drewN | apply IsS116.drew | apply IsS116.set_1 | refine IsS116.far ?_ NB0_525.out _ | refine IsS116.far ?_ NB0_532.out _) | exact HI0.out)); (case side2 => repeat (first | (with_reducible first | exact HB.out | apply below_alloc | apply pw_below_drewN | apply below_drew1 | refine below_set ?_ (IsS116.ge HI0.out) | refine below_set ?_ GE525.out | refine below_set ?_ GE532.out) | exact HB.out)); rintro e w33 ⟨rfl, hi, hb, hk⟩; refine ⟨_, rfl, ?_⟩; have n0_ := am_ (KeepBut.blk hk (bu BK525.out) NB525_0.out (by simp)); have n1_ := am_ (KeepBut.blk hk (bu BK532.out) NB532_0.out (by simp)); have n2_ := am_ (KeepBut.trans z121_6 hk (.inl rfl)); have n3_ := am_ (hb); have n4_ := am_ (hi); clear BK525 BK532 HK HB HI0; have BK525 := n0_; have BK532 := n1_; have HK := n2_; have HB := n3_; have HI0 := n4_; clear n0_ n1_ n2_ n3_ n4_; (try clear hb); (try clear hb2); (try clear hk); (try clear hi); have hnb34 := NB532_525.out; have hnc34 := NB525_532.out; have hnb35 := NB532_0.out; have hnc35 := NB0_532.out; have hcz36_0 : w33.cell? ⟨gb532, 0, none⟩ = some (.int .i64 (rd y526 t529)) := (blk_cell BK532.out 0).trans rfl; have hcz36_1 : w33.cell? ⟨gb532, 1, none⟩ = some (.int .i64 0) := (blk_cell BK532.out 1).trans rfl; have hcz36_2 : w33.cell? ⟨gb532, 2, none⟩ = some (.int .i64 0) := (blk_cell BK532.out 2).trans rfl; have hfz36_0 := blk_frozen BK532.out 0; have hfz36_1 := blk_frozen BK532.out 1; have hfz36_2 := blk_frozen BK532.out 2) | ((with_reducible refine gate_callee (f := 71) rfl ?_); refine goesL_ (some 31) rfl rfl Try.func71 (by kernel_rfl) rfl #[.pointer (some ⟨g, 0, none⟩), .int .i64 3] rfl (by (try simp only [List.map_toArray, List.map_cons, List.map_nil]); first | done | rfl | (simp only [List.length_drop, List.length_take]; rfl)) ?_; (with_reducible refine (spec_l6Rd_pick.calls kj5 g s0_0 t536 3 t537 t538 w0 _ ?side1 ?side2 A32.out).mono ?_); (case side1 => repeat (first | (with_reducible first | exact HI0.out | apply IsS116.alloc | apply IsS116.drewN | apply IsS116.drew | apply IsS116.set_1 | refine IsS116.far ?_ NB0_525.out _ | refine IsS116.far ?_ NB0_532.out _) | exact HI0.out)); (case side2 => repeat (first | (with_reducible first | exact HB.out | apply below_alloc | apply pw_below_drewN | apply below_drew1 | refine below_set ?_ (IsS116.ge HI0.out) | refine below_set ?_ GE525.out | refine below_set ?_ GE532.out) | exact HB.out)); rintro e w37 ⟨rfl, hi, hb, hk⟩; refine ⟨_, rfl, ?_⟩; have n0_ := am_ (KeepBut.blk hk (g' := gb525) (o := .cells #[.int .i64 0, .int .i64 0, .int .i64 0] 85 (0, 0)) z121_9 NB525_0.out (by simp)); have n1_ := am_ (KeepBut.blk hk (g' := gb532) (o := .cells #[.int .i64 (rd y526 t529), .int .i64 t535, .int .i64 0] 85 (0, 0)) z121_10 NB532_0.out (by simp)); have n2_ := am_ (KeepBut.trans z121_6 hk (.inl rfl)); have n3_ := am_ (hb); have n4_ := am_ (hi); clear BK525 BK532 HK HB HI0; have BK525 := n0_; have BK532 := n1_; have HK := n2_; have HB := n3_; have HI0 := n4_; clear n0_ n1_ n2_ n3_ n4_; (try clear hb); (try clear hb2); (try clear hk); (try clear hi); have hcz38_0 : w37.cell? ⟨gb532, 0, none⟩ = some (.int .i64 (rd y526 t529)) := (blk_cell BK532.out 0).trans rfl; have hcz38_1 : w37.cell? ⟨gb532, 1, none⟩ = some (.int .i64 t535) := (blk_cell BK532.out 1).trans rfl; have hcz38_2 : w37.cell? ⟨gb532, 2, none⟩ = some (.int .i64 0) := (blk_cell BK532.out 2).trans rfl; have hfz38_0 := blk_frozen BK532.out 0; have hfz38_1 := blk_frozen BK532.out 1; have hfz38_2 := blk_frozen BK532.out 2; have hnb39 := NB525_0.out; have hnc39 := NB0_525.out; have hcz40_0 : w37.cell? ⟨gb525, 0, none⟩ = some (.int .i64 0) := (blk_cell BK525.out 0).trans rfl; have hcz40_1 : w37.cell? ⟨gb525, 1, none⟩ = some (.int .i64 0) := (blk_cell BK525.out 1).trans rfl; have hcz40_2 : w37.cell? ⟨gb525, 2, none⟩ = some (.int .i64 0) := (blk_cell BK525.out 2).trans rfl; have hfz40_0 := blk_frozen BK525.out 0; have hfz40_1 := blk_frozen BK525.out 1; have hfz40_2 := blk_frozen BK525.out 2))
       refine bodyPost_ret (results_cell_row rfl _ _ gb525 85 #[.int .i64 (rd y526 t529), .int .i64 t535, .int .i64 (wrap64 (1 + t537))] (0, 0) _ rfl z121_14 Try.underlying85 rfl (by kernel_rfl)) rfl ?_
       exact ⟨z121_1, z121_7, z121_8, z121_6⟩
      ·rw [if_neg c31] at H
       have c31b0 : ((rd y526 t529) == 1) = false := beq_eq_false_iff_ne.mpr c31
       have c31b1 : ((rd y526 t529) != 1) = true := bne_iff_ne.mpr c31
       by_cases c41 : (rd y526 t529) = 6
       ·rw [if_pos c41] at H
        have c41b0 : ((rd y526 t529) == 6) = true := beq_iff_eq.mpr c41
        have c41b1 : ((rd y526 t529) != 6) = false := bne_eq_false_iff_eq.mpr c41
        clear c41
        replace H := Option.bind_eq_some_iff.mp H
        obtain ⟨⟨t539, t540⟩, A420, H⟩ := H
        replace H : (some ((rd y526 t529), t535, wrap64 (1 + t539), t540)) = some (r1, r2, r3, r4) := H
        have A42 := am_ A420
        clear A420
        simp only [Option.some.injEq, Prod.mk.injEq] at H
        obtain ⟨rfl, rfl, rfl, rfl⟩ := H
        go_wp2_with (first | ((with_reducible refine gate_callee (f := 71) rfl ?_); refine goesL_ (some 20) rfl rfl Try.func71 (by kernel_rfl) rfl #[.pointer (some ⟨g, 0, none⟩), .int .i64 a1] rfl (by (try simp only [List.map_toArray, List.map_cons, List.map_nil]); first | done | rfl | (simp only [List.length_drop, List.length_take]; rfl)) ?_; (with_reducible refine (spec_l6Rd_pick.calls kj5 g s0_0 t530 a1 t535 t536 w0 _ ?side1 ?side2 A30.out).mono ?_); (case side1 => repeat (first | (with_reducible first | exact HI0.out | apply IsS116.alloc | apply IsS116.drewN | apply IsS116.drew | apply IsS116.set_1 | refine IsS116.far ?_ NB0_525.out _ | refine IsS116.far ?_ NB0_532.out _) | exact HI0.out)); (case side2 => repeat (first | (with_reducible first | exact HB.out | apply below_alloc | apply pw_below_drewN | apply below_drew1 | refine below_set ?_ (IsS116.ge HI0.out) | refine below_set ?_ GE525.out | refine below_set ?_ GE532.out) | exact HB.out)); rintro e w43 ⟨rfl, hi, hb, hk⟩; refine ⟨_, rfl, ?_⟩; have n0_ := am_ (KeepBut.blk hk (bu BK525.out) NB525_0.out (by simp)); have n1_ := am_ (KeepBut.blk hk (bu BK532.out) NB532_0.out (by simp)); have n2_ := am_ (KeepBut.trans z121_6 hk (.inl rfl)); have n3_ := am_ (hb); have n4_ := am_ (hi); clear BK525 BK532 HK HB HI0; have BK525 := n0_; have BK532 := n1_; have HK := n2_; have HB := n3_; have HI0 := n4_; clear n0_ n1_ n2_ n3_ n4_; (try clear hb); (try clear hb2); (try clear hk); (try clear hi); have hnb44 := NB532_525.out; have hnc44 := NB525_532.out; have hnb45 := NB532_0.out; have hnc45 := NB0_532.out; have hcz46_0 : w43.cell? ⟨gb532, 0, none⟩ = some (.int .i64 (rd y526 t529)) := (blk_cell BK532.out 0).trans rfl; have hcz46_1 : w43.cell? ⟨gb532, 1, none⟩ = some (.int .i64 0) := (blk_cell BK532.out 1).trans rfl; have hcz46_2 : w43.cell? ⟨gb532, 2, none⟩ = some (.int .i64 0) := (blk_cell BK532.out 2).trans rfl; have hfz46_0 := blk_frozen BK532.out 0; have hfz46_1 := blk_frozen BK532.out 1; have hfz46_2 := blk_frozen BK532.out 2) | ((with_reducible refine gate_callee (f := 71) rfl ?_); refine goesL_ (some 31) rfl rfl Try.func71 (by kernel_rfl) rfl #[.pointer (some ⟨g, 0, none⟩), .int .i64 3] rfl (by (try simp only [List.map_toArray, List.map_cons, List.map_nil]); first | done | rfl | (simp only [List.length_drop, List.length_take]; rfl)) ?_; (with_reducible refine (spec_l6Rd_pick.calls kj5 g s0_0 t536 3 t539 t540 w0 _ ?side1 ?side2 A42.out).mono ?_); (case side1 => repeat (first | (with_reducible first | exact HI0.out | apply IsS116.alloc | apply IsS116.drewN | apply IsS116.drew | apply IsS116.set_1 | refine IsS116.far ?_ NB0_525.out _ | refine IsS116.far ?_ NB0_532.out _) | exact HI0.out)); (case side2 => repeat (first | (with_reducible first | exact HB.out | apply below_alloc | apply pw_below_drewN | apply below_drew1 | refine below_set ?_ (IsS116.ge HI0.out) | refine below_set ?_ GE525.out | refine below_set ?_ GE532.out) | exact HB.out)); rintro e w47 ⟨rfl, hi, hb, hk⟩; refine ⟨_, rfl, ?_⟩; have n0_ := am_ (KeepBut.blk hk (g' := gb525) (o := .cells #[.int .i64 0, .int .i64 0, .int .i64 0] 85 (0, 0)) z121_9 NB525_0.out (by simp)); have n1_ := am_ (KeepBut.blk hk (g' := gb532) (o := .cells #[.int .i64 (rd y526 t529), .int .i64 t535, .int .i64 0] 85 (0, 0)) z121_10 NB532_0.out (by simp)); have n2_ := am_ (KeepBut.trans z121_6 hk (.inl rfl)); have n3_ := am_ (hb); have n4_ := am_ (hi); clear BK525 BK532 HK HB HI0; have BK525 := n0_; have BK532 := n1_; have HK := n2_; have HB := n3_; have HI0 := n4_; clear n0_ n1_ n2_ n3_ n4_; (try clear hb); (try clear hb2); (try clear hk); (try clear hi); have hcz48_0 : w47.cell? ⟨gb532, 0, none⟩ = some (.int .i64 (rd y526 t529)) := (blk_cell BK532.out 0).trans rfl; have hcz48_1 : w47.cell? ⟨gb532, 1, none⟩ = some (.int .i64 t535) := (blk_cell BK532.out 1).trans rfl; have hcz48_2 : w47.cell? ⟨gb532, 2, none⟩ = some (.int .i64 0) := (blk_cell BK532.out 2).trans rfl; have hfz48_0 := blk_frozen BK532.out 0; have hfz48_1 := blk_frozen BK532.out 1; have hfz48_2 := blk_frozen BK532.out 2; have hnb49 := NB525_0.out; have hnc49 := NB0_525.out; have hcz50_0 : w47.cell? ⟨gb525, 0, none⟩ = some (.int .i64 0) := (blk_cell BK525.out 0).trans rfl; have hcz50_1 : w47.cell? ⟨gb525, 1, none⟩ = some (.int .i64 0) := (blk_cell BK525.out 1).trans rfl; have hcz50_2 : w47.cell? ⟨gb525, 2, none⟩ = some (.int .i64 0) := (blk_cell BK525.out 2).trans rfl; have hfz50_0 := blk_frozen BK525.out 0; have hfz50_1 := blk_frozen BK525.out 1; have hfz50_2 := blk_frozen BK525.out 2))
        refine bodyPost_ret (results_cell_row rfl _ _ gb525 85 #[.int .i64 (rd y526 t529), .int .i64 t535, .int .i64 (wrap64 (1 + t539))] (0, 0) _ rfl z121_14 Try.underlying85 rfl (by kernel_rfl)) rfl ?_
        exact ⟨z121_1, z121_7, z121_8, z121_6⟩
       ·rw [if_neg c41] at H
        have c41b0 : ((rd y526 t529) == 6) = false := beq_eq_false_iff_ne.mpr c41
        have c41b1 : ((rd y526 t529) != 6) = true := bne_iff_ne.mpr c41
        simp only [Option.some.injEq, Prod.mk.injEq] at H
        obtain ⟨rfl, rfl, rfl, rfl⟩ := H
        go_wp2_with (first | ((with_reducible refine gate_callee (f := 71) rfl ?_); refine goesL_ (some 20) rfl rfl Try.func71 (by kernel_rfl) rfl #[.pointer (some ⟨g, 0, none⟩), .int .i64 a1] rfl (by (try simp only [List.map_toArray, List.map_cons, List.map_nil]); first | done | rfl | (simp only [List.length_drop, List.length_take]; rfl)) ?_; (with_reducible refine (spec_l6Rd_pick.calls kj5 g s0_0 t530 a1 t535 t536 w0 _ ?side1 ?side2 A30.out).mono ?_); (case side1 => repeat (first | (with_reducible first | exact HI0.out | apply IsS116.alloc | apply IsS116.drewN | apply IsS116.drew | apply IsS116.set_1 | refine IsS116.far ?_ NB0_525.out _ | refine IsS116.far ?_ NB0_532.out _) | exact HI0.out)); (case side2 => repeat (first | (with_reducible first | exact HB.out | apply below_alloc | apply pw_below_drewN | apply below_drew1 | refine below_set ?_ (IsS116.ge HI0.out) | refine below_set ?_ GE525.out | refine below_set ?_ GE532.out) | exact HB.out)); rintro e w51 ⟨rfl, hi, hb, hk⟩; refine ⟨_, rfl, ?_⟩; have n0_ := am_ (KeepBut.blk hk (bu BK525.out) NB525_0.out (by simp)); have n1_ := am_ (KeepBut.blk hk (bu BK532.out) NB532_0.out (by simp)); have n2_ := am_ (KeepBut.trans z121_6 hk (.inl rfl)); have n3_ := am_ (hb); have n4_ := am_ (hi); clear BK525 BK532 HK HB HI0; have BK525 := n0_; have BK532 := n1_; have HK := n2_; have HB := n3_; have HI0 := n4_; clear n0_ n1_ n2_ n3_ n4_; (try clear hb); (try clear hb2); (try clear hk); (try clear hi); have hnb52 := NB532_525.out; have hnc52 := NB525_532.out; have hnb53 := NB532_0.out; have hnc53 := NB0_532.out; have hcz54_0 : w51.cell? ⟨gb532, 0, none⟩ = some (.int .i64 (rd y526 t529)) := (blk_cell BK532.out 0).trans rfl; have hcz54_1 : w51.cell? ⟨gb532, 1, none⟩ = some (.int .i64 0) := (blk_cell BK532.out 1).trans rfl; have hcz54_2 : w51.cell? ⟨gb532, 2, none⟩ = some (.int .i64 0) := (blk_cell BK532.out 2).trans rfl; have hfz54_0 := blk_frozen BK532.out 0; have hfz54_1 := blk_frozen BK532.out 1; have hfz54_2 := blk_frozen BK532.out 2; have hnb55 := NB525_0.out; have hnc55 := NB0_525.out; have hcz56_0 : w51.cell? ⟨gb525, 0, none⟩ = some (.int .i64 0) := (blk_cell BK525.out 0).trans rfl; have hcz56_1 : w51.cell? ⟨gb525, 1, none⟩ = some (.int .i64 0) := (blk_cell BK525.out 1).trans rfl; have hcz56_2 : w51.cell? ⟨gb525, 2, none⟩ = some (.int .i64 0) := (blk_cell BK525.out 2).trans rfl; have hfz56_0 := blk_frozen BK525.out 0; have hfz56_1 := blk_frozen BK525.out 1; have hfz56_2 := blk_frozen BK525.out 2))
        refine bodyPost_ret (results_cell_row rfl _ _ gb525 85 #[.int .i64 (rd y526 t529), .int .i64 t535, .int .i64 0] (0, 0) _ rfl z121_14 Try.underlying85 rfl (by kernel_rfl)) rfl ?_
        exact ⟨z121_1, z121_7, z121_8, z121_6⟩
     ·replace c29 := Bool.eq_false_iff.mpr c29
      subst c29
      have H1 : (if (rd y526 t529) = 1 then ((spec_l6Rd_pick.f kj5 s0_0 t530 3).bind fun bt541 => (some ((rd y526 t529), 0, wrap64 (1 + bt541.1), bt541.2))) else (if (rd y526 t529) = 6 then ((spec_l6Rd_pick.f kj5 s0_0 t530 3).bind fun bt543 => (some ((rd y526 t529), 0, wrap64 (1 + bt543.1), bt543.2))) else (some ((rd y526 t529), 0, 0, t530)))) = some (r1, r2, r3, r4) := by rw [if_neg (show ¬ (false = true) by decide)] at H; exact H
      clear H
      have H := H1
      clear H1
      by_cases c57 : (rd y526 t529) = 1
      ·rw [if_pos c57] at H
       have c57b0 : ((rd y526 t529) == 1) = true := beq_iff_eq.mpr c57
       have c57b1 : ((rd y526 t529) != 1) = false := bne_eq_false_iff_eq.mpr c57
       clear c57
       replace H := Option.bind_eq_some_iff.mp H
       obtain ⟨⟨t541, t542⟩, A580, H⟩ := H
       replace H : (some ((rd y526 t529), 0, wrap64 (1 + t541), t542)) = some (r1, r2, r3, r4) := H
       have A58 := am_ A580
       clear A580
       simp only [Option.some.injEq, Prod.mk.injEq] at H
       obtain ⟨rfl, rfl, rfl, rfl⟩ := H
       have hnb59 := NB532_525.out
       have hnc59 := NB525_532.out
       have hnb60 := NB532_0.out
       have hnc60 := NB0_532.out
       have hcz61_0 : wc.cell? ⟨gb532, 0, none⟩ = some (.int .i64 (rd y526 t529)) := (blk_cell BK532.out 0).trans rfl
       have hcz61_1 : wc.cell? ⟨gb532, 1, none⟩ = some (.int .i64 0) := (blk_cell BK532.out 1).trans rfl
       have hcz61_2 : wc.cell? ⟨gb532, 2, none⟩ = some (.int .i64 0) := (blk_cell BK532.out 2).trans rfl
       have hfz61_0 := blk_frozen BK532.out 0
       have hfz61_1 := blk_frozen BK532.out 1
       have hfz61_2 := blk_frozen BK532.out 2
       go_wp2_with (first | ((with_reducible refine gate_callee (f := 71) rfl ?_); refine goesL_ (some 31) rfl rfl Try.func71 (by kernel_rfl) rfl #[.pointer (some ⟨g, 0, none⟩), .int .i64 3] rfl (by (try simp only [List.map_toArray, List.map_cons, List.map_nil]); first | done | rfl | (simp only [List.length_drop, List.length_take]; rfl)) ?_; (with_reducible refine (spec_l6Rd_pick.calls kj5 g s0_0 t530 3 t541 t542 w0 _ ?side1 ?side2 A58.out).mono ?_); (case side1 => repeat (first | (with_reducible first | exact HI0.out | apply IsS116.alloc | apply IsS116.drewN | apply IsS116.drew | apply IsS116.set_1 | refine IsS116.far ?_ NB0_525.out _ | refine IsS116.far ?_ NB0_532.out _) | exact HI0.out)); (case side2 => repeat (first | (with_reducible first | exact HB.out | apply below_alloc | apply pw_below_drewN | apply below_drew1 | refine below_set ?_ (IsS116.ge HI0.out) | refine below_set ?_ GE525.out | refine below_set ?_ GE532.out) | exact HB.out)); rintro e w62 ⟨rfl, hi, hb, hk⟩; refine ⟨_, rfl, ?_⟩; have n0_ := am_ (KeepBut.blk hk (bu BK525.out) NB525_0.out (by simp)); have n1_ := am_ (KeepBut.blk hk (bu BK532.out) NB532_0.out (by simp)); have n2_ := am_ (KeepBut.trans z121_6 hk (.inl rfl)); have n3_ := am_ (hb); have n4_ := am_ (hi); clear BK525 BK532 HK HB HI0; have BK525 := n0_; have BK532 := n1_; have HK := n2_; have HB := n3_; have HI0 := n4_; clear n0_ n1_ n2_ n3_ n4_; (try clear hb); (try clear hb2); (try clear hk); (try clear hi); have hcz63_0 : w62.cell? ⟨gb532, 0, none⟩ = some (.int .i64 (rd y526 t529)) := (blk_cell BK532.out 0).trans rfl; have hcz63_1 : w62.cell? ⟨gb532, 1, none⟩ = some (.int .i64 0) := (blk_cell BK532.out 1).trans rfl; have hcz63_2 : w62.cell? ⟨gb532, 2, none⟩ = some (.int .i64 0) := (blk_cell BK532.out 2).trans rfl; have hfz63_0 := blk_frozen BK532.out 0; have hfz63_1 := blk_frozen BK532.out 1; have hfz63_2 := blk_frozen BK532.out 2; have hnb64 := NB525_0.out; have hnc64 := NB0_525.out; have hcz65_0 : w62.cell? ⟨gb525, 0, none⟩ = some (.int .i64 0) := (blk_cell BK525.out 0).trans rfl; have hcz65_1 : w62.cell? ⟨gb525, 1, none⟩ = some (.int .i64 0) := (blk_cell BK525.out 1).trans rfl; have hcz65_2 : w62.cell? ⟨gb525, 2, none⟩ = some (.int .i64 0) := (blk_cell BK525.out 2).trans rfl; have hfz65_0 := blk_frozen BK525.out 0; have hfz65_1 := blk_frozen BK525.out 1; have hfz65_2 := blk_frozen BK525.out 2))
       refine bodyPost_ret (results_cell_row rfl _ _ gb525 85 #[.int .i64 (rd y526 t529), .int .i64 0, .int .i64 (wrap64 (1 + t541))] (0, 0) _ rfl z121_13 Try.underlying85 rfl (by kernel_rfl)) rfl ?_
       exact ⟨z121_1, z121_7, z121_8, z121_6⟩
      ·rw [if_neg c57] at H
       have c57b0 : ((rd y526 t529) == 1) = false := beq_eq_false_iff_ne.mpr c57
       have c57b1 : ((rd y526 t529) != 1) = true := bne_iff_ne.mpr c57
       by_cases c66 : (rd y526 t529) = 6
       ·rw [if_pos c66] at H
        have c66b0 : ((rd y526 t529) == 6) = true := beq_iff_eq.mpr c66
        have c66b1 : ((rd y526 t529) != 6) = false := bne_eq_false_iff_eq.mpr c66
        clear c66
        replace H := Option.bind_eq_some_iff.mp H
        obtain ⟨⟨t543, t544⟩, A670, H⟩ := H
        replace H : (some ((rd y526 t529), 0, wrap64 (1 + t543), t544)) = some (r1, r2, r3, r4) := H
        have A67 := am_ A670
        clear A670
        simp only [Option.some.injEq, Prod.mk.injEq] at H
        obtain ⟨rfl, rfl, rfl, rfl⟩ := H
        have hnb68 := NB532_525.out
        have hnc68 := NB525_532.out
        have hnb69 := NB532_0.out
        have hnc69 := NB0_532.out
        have hcz70_0 : wc.cell? ⟨gb532, 0, none⟩ = some (.int .i64 (rd y526 t529)) := (blk_cell BK532.out 0).trans rfl
        have hcz70_1 : wc.cell? ⟨gb532, 1, none⟩ = some (.int .i64 0) := (blk_cell BK532.out 1).trans rfl
        have hcz70_2 : wc.cell? ⟨gb532, 2, none⟩ = some (.int .i64 0) := (blk_cell BK532.out 2).trans rfl
        have hfz70_0 := blk_frozen BK532.out 0
        have hfz70_1 := blk_frozen BK532.out 1
        have hfz70_2 := blk_frozen BK532.out 2
        go_wp2_with (first | ((with_reducible refine gate_callee (f := 71) rfl ?_); refine goesL_ (some 31) rfl rfl Try.func71 (by kernel_rfl) rfl #[.pointer (some ⟨g, 0, none⟩), .int .i64 3] rfl (by (try simp only [List.map_toArray, List.map_cons, List.map_nil]); first | done | rfl | (simp only [List.length_drop, List.length_take]; rfl)) ?_; (with_reducible refine (spec_l6Rd_pick.calls kj5 g s0_0 t530 3 t543 t544 w0 _ ?side1 ?side2 A67.out).mono ?_); (case side1 => repeat (first | (with_reducible first | exact HI0.out | apply IsS116.alloc | apply IsS116.drewN | apply IsS116.drew | apply IsS116.set_1 | refine IsS116.far ?_ NB0_525.out _ | refine IsS116.far ?_ NB0_532.out _) | exact HI0.out)); (case side2 => repeat (first | (with_reducible first | exact HB.out | apply below_alloc | apply pw_below_drewN | apply below_drew1 | refine below_set ?_ (IsS116.ge HI0.out) | refine below_set ?_ GE525.out | refine below_set ?_ GE532.out) | exact HB.out)); rintro e w71 ⟨rfl, hi, hb, hk⟩; refine ⟨_, rfl, ?_⟩; have n0_ := am_ (KeepBut.blk hk (bu BK525.out) NB525_0.out (by simp)); have n1_ := am_ (KeepBut.blk hk (bu BK532.out) NB532_0.out (by simp)); have n2_ := am_ (KeepBut.trans z121_6 hk (.inl rfl)); have n3_ := am_ (hb); have n4_ := am_ (hi); clear BK525 BK532 HK HB HI0; have BK525 := n0_; have BK532 := n1_; have HK := n2_; have HB := n3_; have HI0 := n4_; clear n0_ n1_ n2_ n3_ n4_; (try clear hb); (try clear hb2); (try clear hk); (try clear hi); have hcz72_0 : w71.cell? ⟨gb532, 0, none⟩ = some (.int .i64 (rd y526 t529)) := (blk_cell BK532.out 0).trans rfl; have hcz72_1 : w71.cell? ⟨gb532, 1, none⟩ = some (.int .i64 0) := (blk_cell BK532.out 1).trans rfl; have hcz72_2 : w71.cell? ⟨gb532, 2, none⟩ = some (.int .i64 0) := (blk_cell BK532.out 2).trans rfl; have hfz72_0 := blk_frozen BK532.out 0; have hfz72_1 := blk_frozen BK532.out 1; have hfz72_2 := blk_frozen BK532.out 2; have hnb73 := NB525_0.out; have hnc73 := NB0_525.out; have hcz74_0 : w71.cell? ⟨gb525, 0, none⟩ = some (.int .i64 0) := (blk_cell BK525.out 0).trans rfl; have hcz74_1 : w71.cell? ⟨gb525, 1, none⟩ = some (.int .i64 0) := (blk_cell BK525.out 1).trans rfl; have hcz74_2 : w71.cell? ⟨gb525, 2, none⟩ = some (.int .i64 0) := (blk_cell BK525.out 2).trans rfl; have hfz74_0 := blk_frozen BK525.out 0; have hfz74_1 := blk_frozen BK525.out 1; have hfz74_2 := blk_frozen BK525.out 2))
        refine bodyPost_ret (results_cell_row rfl _ _ gb525 85 #[.int .i64 (rd y526 t529), .int .i64 0, .int .i64 (wrap64 (1 + t543))] (0, 0) _ rfl z121_13 Try.underlying85 rfl (by kernel_rfl)) rfl ?_
        exact ⟨z121_1, z121_7, z121_8, z121_6⟩
       ·rw [if_neg c66] at H
        have c66b0 : ((rd y526 t529) == 6) = false := beq_eq_false_iff_ne.mpr c66
        have c66b1 : ((rd y526 t529) != 6) = true := bne_iff_ne.mpr c66
        simp only [Option.some.injEq, Prod.mk.injEq] at H
        obtain ⟨rfl, rfl, rfl, rfl⟩ := H
        have hnb75 := NB532_525.out
        have hnc75 := NB525_532.out
        have hnb76 := NB532_0.out
        have hnc76 := NB0_532.out
        have hcz77_0 : wc.cell? ⟨gb532, 0, none⟩ = some (.int .i64 (rd y526 t529)) := (blk_cell BK532.out 0).trans rfl
        have hcz77_1 : wc.cell? ⟨gb532, 1, none⟩ = some (.int .i64 0) := (blk_cell BK532.out 1).trans rfl
        have hcz77_2 : wc.cell? ⟨gb532, 2, none⟩ = some (.int .i64 0) := (blk_cell BK532.out 2).trans rfl
        have hfz77_0 := blk_frozen BK532.out 0
        have hfz77_1 := blk_frozen BK532.out 1
        have hfz77_2 := blk_frozen BK532.out 2
        have hnb78 := NB525_0.out
        have hnc78 := NB0_525.out
        have hcz79_0 : wc.cell? ⟨gb525, 0, none⟩ = some (.int .i64 0) := (blk_cell BK525.out 0).trans rfl
        have hcz79_1 : wc.cell? ⟨gb525, 1, none⟩ = some (.int .i64 0) := (blk_cell BK525.out 1).trans rfl
        have hcz79_2 : wc.cell? ⟨gb525, 2, none⟩ = some (.int .i64 0) := (blk_cell BK525.out 2).trans rfl
        have hfz79_0 := blk_frozen BK525.out 0
        have hfz79_1 := blk_frozen BK525.out 1
        have hfz79_2 := blk_frozen BK525.out 2
        go_wp2
        refine bodyPost_ret (results_cell_row rfl _ _ gb525 85 #[.int .i64 (rd y526 t529), .int .i64 0, .int .i64 0] (0, 0) _ rfl (by (with_reducible repeat (first | refine blk_drewN ?_ _ | refine blk_drew ?_ | refine blk_alloc ?_ _)); refine blk_put (cs := #[.int .i64 (rd y526 t529), .int .i64 0, .int .i64 0]) ?_ 2 _ rfl; (with_reducible repeat (first | refine blk_drewN ?_ _ | refine blk_drew ?_ | refine blk_alloc ?_ _)); refine blk_put (cs := #[.int .i64 (rd y526 t529), .int .i64 0, .int .i64 0]) ?_ 1 _ rfl; (with_reducible repeat (first | refine blk_drewN ?_ _ | refine blk_drew ?_ | refine blk_alloc ?_ _)); refine blk_put (cs := #[.int .i64 0, .int .i64 0, .int .i64 0]) ?_ 0 _ rfl; (with_reducible repeat (first | refine blk_drewN ?_ _ | refine blk_drew ?_ | refine blk_alloc ?_ _)); exact BK525.out) Try.underlying85 rfl (by kernel_rfl)) rfl ?_
        exact ⟨z121_1, z121_7, z121_8, z121_6⟩
  ·rw [if_neg c5] at H
   exact absurd H (by simp)
 ·rw [if_neg c4] at H
  exact absurd H (by simp)

end Go.Proofs.Ytefkbmhkhpekjaa.PB

namespace Go.Proofs.Ytefkbmhkhpekjaa.PB
open Go.RowKit Go.Proofs.YtefkbmhkhpekjaaW.PrintWords Go.Proofs.YtefkbmhkhpekjaaW.PrintLast Go.Proofs.YtefkbmhkhpekjaaW.PrintMore
attribute [local go_sem] max2_int min2_int max_two min_two max_three min_three max_four min_four   -- for this text's walks alone
open Go.Proofs.YtefkbmhkhpekjaaMine
set_option linter.unusedVariables false
set_option linter.unusedSimpArgs false

theorem z86_1 {p : Prop} (h : p := by repeat (first | (with_reducible first | exact HK.out | apply KeepBut.set_ | apply keep_drewN | apply keep_drew | apply keep_alloc) | exact HK.out)) : p := h
theorem z86_2 {p : Prop} (h : p := by repeat (first | (with_reducible first | exact HI0.out | apply IsS116.alloc | apply IsS116.drewN | apply IsS116.drew | apply IsS116.set_1) | exact HI0.out)) : p := h
theorem z86_3 {p : Prop} (h : p := by repeat (first | (with_reducible first | exact HB.out | apply below_alloc | apply pw_below_drewN | apply below_drew1 | refine below_set ?_ (IsS116.ge HI0.out)) | exact HB.out)) : p := h
/-! ### spec_l71Thread: function 86 -/
def spec_l71Thread.l0 : Nat → Int → List (S85) → Int → List Int → Int → Option ((List (S85)) × Int)
  | 0, _, _, _, _, _ => none
  | k + 1, x2, x7, x8, x1000, x1001 => if x8 > 0 then ((spec_l71Do.f k x1000 x1001 x2).bind fun bt550 => (if x7.length < 5864062014805 then (spec_l71Thread.l0 k x2 (x7 ++ [(⟨bt550.1, bt550.2.1, bt550.2.2.1⟩ : S85)]) (wrap64 (x8 - 1)) x1000 bt550.2.2.2) else (none))) else (some (x7, x1001))
def spec_l71Thread.f (k : Nat) (s0_0 : List Int) (s0_1 : Int) (a1 : Int) (a2 : Int) : Option ((List (S85)) × Int) := (spec_l6Rd_pick.f k s0_0 s0_1 (wrap64 (a1 + 1))).bind fun bt548 => (spec_l71Thread.l0 k a2 (([] : List (S85))) bt548.1 s0_0 bt548.2)
theorem spec_l71Thread.mono_l : ∀ k, (∀ y0 y1 y2 y3 y4, LeO (spec_l71Thread.l0 k y0 y1 y2 y3 y4) (spec_l71Thread.l0 (k + 1) y0 y1 y2 y3 y4))
  | 0 => fun _ _ _ _ _ r h => by simp [spec_l71Thread.l0] at h
  | k + 1 => by
    have ih0 := spec_l71Thread.mono_l k
    · intro y0 y1 y2 y3 y4
      unfold spec_l71Thread.l0
      repeat' first
      | (with_reducible exact ih0 _ _ _ _ _)
      | (with_reducible exact spec_l6Rd_pick.mono _ _ _ _)
      | (with_reducible exact spec_l71Do.mono _ _ _ _)
      | (with_reducible exact LeO.refl _)
      | (with_reducible exact LeO.none _)
      | (with_reducible refine LeO.ite ?_ ?_)
      | (with_reducible refine LeO.bind ?_ (fun _ => ?_))
      | exact ih0 _ _ _ _ _
      | exact spec_l6Rd_pick.mono _ _ _ _
      | exact spec_l71Do.mono _ _ _ _
      | exact LeO.none _
      | refine LeO.ite ?_ ?_
      | refine LeO.bind ?_ (fun _ => ?_)
theorem spec_l71Thread.mono : ∀ a0 a1 a2 a3 k, LeO (spec_l71Thread.f k a0 a1 a2 a3) (spec_l71Thread.f (k + 1) a0 a1 a2 a3) := by
  intro a0 a1 a2 a3 k
  have ih0 := spec_l71Thread.mono_l k
  unfold spec_l71Thread.f
  repeat' first
      | (with_reducible exact ih0 _ _ _ _ _)
      | (with_reducible exact spec_l6Rd_pick.mono _ _ _ _)
      | (with_reducible exact spec_l71Do.mono _ _ _ _)
      | (with_reducible exact LeO.refl _)
      | (with_reducible exact LeO.none _)
      | (with_reducible refine LeO.ite ?_ ?_)
      | (with_reducible refine LeO.bind ?_ (fun _ => ?_))
      | exact ih0 _ _ _ _ _
      | exact spec_l6Rd_pick.mono _ _ _ _
      | exact spec_l71Do.mono _ _ _ _
      | exact LeO.none _
      | refine LeO.ite ?_ ?_
      | refine LeO.bind ?_ (fun _ => ?_)
set_option maxHeartbeats 8000000 in
set_option maxRecDepth 100000 in
theorem spec_l71Thread.calls (k : Nat) (g : Nat) (s0_0 : List Int) (s0_1 : Int) (a1 : Int) (a2 : Int) (r1 : List (S85)) (r2 : Int) (w0 w : World) (hI : IsS116 w0 w g s0_0 s0_1) (hB : Below w0.heap.size w0 w) (h : spec_l71Thread.f k s0_0 s0_1 a1 a2 = some (r1, r2)) :
  Calls Try.prog 86 #[.pointer (some ⟨g, 0, none⟩), .int .i64 a1, .int .i64 a2] w fun e w' => ∃ v0_ : Value, e = .returned (v0_) ∧ Kd.R k85 85 w' w.heap.size (fun _ => True) v0_ r1 ∧ IsS116 w0 w' g s0_0 r2 ∧ Below w0.heap.size w0 w' ∧ KeepBut w w' g none := by
 have HI0 := am_ hI
 have HK := am_ (KeepBut.refl w g none)
 have HL := am_ hB.size
 clear hI
 have HW0 := am_ hB.size
 have HB := am_ hB
 clear hB
 have H : ((spec_l6Rd_pick.f k s0_0 s0_1 (wrap64 (a1 + 1))).bind fun bt548 => (spec_l71Thread.l0 k a2 (([] : List (S85))) bt548.1 s0_0 bt548.2)) = some (r1, r2) := h
 clear h
 obtain ⟨y545, hy545⟩ : ∃ y_ : List (S85), y_ = (([] : List (S85))) := ⟨_, rfl⟩
 replace H : ((spec_l6Rd_pick.f k s0_0 s0_1 (wrap64 (a1 + 1))).bind fun bt548 => (spec_l71Thread.l0 k a2 y545 bt548.1 s0_0 bt548.2)) = some (r1, r2) := by first | (rw [hy545]; with_reducible exact H) | (have H2_ := (Option.bind_some _ _).symm.trans H; rw [hy545]; with_reducible exact H2_) | (have H2_ := (Option.bind_some _ _).symm.trans H; with_reducible exact H2_) | with_reducible exact H | (rw [hy545]; exact H) | exact H
 have Ny545 := am_ hy545
 clear hy545
 replace H := Option.bind_eq_some_iff.mp H
 obtain ⟨⟨t548, t549⟩, A40, H⟩ := H
 replace H : (spec_l71Thread.l0 k a2 y545 t548 s0_0 t549) = some (r1, r2) := H
 have A4 := am_ A40
 clear A40
 have H' := am_ H
 clear H
 go_enter Try.func86, Try.ntmps86
 go_wp2_with (first | ((with_reducible refine gate_dst (N := 9) rfl ?_); refine Kd.R_lit k85 _ 85 ?hg (N := 9) ?hd (xs := ([] : List (S85))) (inner := []) (ok := fun _ => True) (okp := fun _ => True) ?hr ?hp (fun _ hk => hk) trivial (Below.refl _ _) (Nat.le_refl _) (by simp) ?_; (case hd => rfl); (case hg => rfl); (case hr => first | (go_simp; done) | (go_simp; rfl)); (case hp => exact (Reps.none _ _)); intro v546 w5 ho6 hb hg_ hnew_; clear hg_ hnew_; (first | rw [← Ny545.out] at ho6 | (simp only [Int.reduceToNat] at ho6; rw [← Ny545.out] at ho6)); have n0_ := am_ (Kd.R_lower ho6 (keep_size (w := w) (g := g) (row := none) z86_1)); have n1_ := am_ (IsS116.below z86_2 hb); have n2_ := am_ (KeepBut.trans z86_1 (KeepBut.of_below hb g none) (.inl rfl)); have n3_ := am_ (below_step z86_3 hb); clear HI0 HK HB; have HO547 := n0_; have HI0 := n1_; have HK := n2_; have HB := n3_; clear n0_ n1_ n2_ n3_; clear hb ho6) | ((with_reducible refine gate_callee (f := 71) rfl ?_); refine goesL_ (some 13) rfl rfl Try.func71 (by kernel_rfl) rfl #[.pointer (some ⟨g, 0, none⟩), .int .i64 (wrap64 (a1 + 1))] rfl (by (try simp only [List.map_toArray, List.map_cons, List.map_nil]); first | done | rfl | (simp only [List.length_drop, List.length_take]; rfl)) ?_; (with_reducible refine (spec_l6Rd_pick.calls k g s0_0 s0_1 (wrap64 (a1 + 1)) t548 t549 w0 _ ?side1 ?side2 A4.out).mono ?_); (case side1 => repeat (first | (with_reducible first | exact HI0.out | apply IsS116.alloc | apply IsS116.drewN | apply IsS116.drew | apply IsS116.set_1) | exact HI0.out)); (case side2 => repeat (first | (with_reducible first | exact HB.out | apply below_alloc | apply pw_below_drewN | apply below_drew1 | refine below_set ?_ (IsS116.ge HI0.out)) | exact HB.out)); rintro e w7 ⟨rfl, hi, hb, hk⟩; refine ⟨_, rfl, ?_⟩; have n0_ := am_ (Kd.R_mono (Kd.R_keep (IsS116.apart (show IsS116 w0 _ g s0_0 s0_1 from by repeat (first | (with_reducible first | exact HI0.out | apply IsS116.alloc | apply IsS116.drewN | apply IsS116.drew | apply IsS116.set_1) | exact HI0.out)) (ru HO547.out) (by decide)) hk (fun _ h => h.2)) (fun _ h => h.1)); have n1_ := am_ (KeepBut.trans z86_1 hk (.inl rfl)); have n2_ := am_ (hb); have n3_ := am_ (hi); clear HO547 HK HB HI0; have HO547 := n0_; have HK := n1_; have HB := n2_; have HI0 := n3_; clear n0_ n1_ n2_ n3_; (try clear hb); (try clear hb2); (try clear hk); (try clear hi)))
 go_loopg [7, 8] k (fun kq v7 v8 w' => ∃ (x7_1 : List (S85)) (x8_1 : Int) (x1001_1 : Int), v8 = .int .i64 x8_1 ∧ Aside0 (spec_l71Thread.l0 kq a2 x7_1 x8_1 s0_0 x1001_1 = some (r1, r2)) ∧ Aside0 (kq ≤ k) ∧ Aside0 (Kd.R k85 85 w' w.heap.size (fun _ => True) v7 x7_1) ∧ Aside0 (IsS116 w0 w' g s0_0 x1001_1) ∧ Aside0 (KeepBut w w' g none) ∧ Aside0 (Below w0.heap.size w0 w'))
 case atStart => exact ⟨(y545), (t548), (t549), (by first | rfl | (simp; done) | (simp [*]; done)), H', ⟨Nat.le_refl _⟩, ⟨ru HO547.out⟩, ⟨z86_2⟩, ⟨z86_1⟩, ⟨z86_3⟩⟩
 case round =>
  clear H'
  obtain ⟨x7_1, x8_1, x1001_1, rfl, HA, HK1, HO_7, HI0, HK, HB⟩ := hrel
  cases gk with
  | zero => exact absurd HA.out (by simp [spec_l71Thread.l0])
  | succ k1 =>
   have H := HA.out
   clear HA
   simp only [spec_l71Thread.l0] at H
   by_cases c8 : x8_1 > 0
   ·rw [if_pos c8] at H
    have c8b0 : decide (0 < x8_1) = true := decide_eq_true c8
    clear c8
    replace H := Option.bind_eq_some_iff.mp H
    obtain ⟨⟨t550, t551, t552, t553⟩, A90, H⟩ := H
    replace H : (if x7_1.length < 5864062014805 then (spec_l71Thread.l0 k1 a2 (x7_1 ++ [(⟨t550, t551, t552⟩ : S85)]) (wrap64 (x8_1 - 1)) s0_0 t553) else (none)) = some (r1, r2) := H
    have A9 := am_ A90
    clear A90
    by_cases c10 : x7_1.length < 5864062014805
    ·rw [if_pos c10] at H
     have LMc10 := am_ c10
     clear c10
     obtain ⟨y554, hy554⟩ : ∃ y_ : List (S85), y_ = (x7_1 ++ [(⟨t550, t551, t552⟩ : S85)]) := ⟨_, rfl⟩
     replace H : (spec_l71Thread.l0 k1 a2 y554 (wrap64 (x8_1 - 1)) s0_0 t553) = some (r1, r2) := by first | (rw [hy554]; with_reducible exact H) | (have H2_ := (Option.bind_some _ _).symm.trans H; rw [hy554]; with_reducible exact H2_) | (have H2_ := (Option.bind_some _ _).symm.trans H; with_reducible exact H2_) | with_reducible exact H | (rw [hy554]; exact H) | exact H
     have Ny554 := am_ hy554
     clear hy554
     have H' := am_ H
     clear H
     go_wp2_with (first | ((with_reducible refine gate_callee (f := 121) rfl ?_); refine goesL_ (some 21) rfl rfl Try.func121 (by kernel_rfl) rfl #[.pointer (some ⟨g, 0, none⟩), .int .i64 a2] rfl (by (try simp only [List.map_toArray, List.map_cons, List.map_nil]); first | done | rfl | (simp only [List.length_drop, List.length_take]; rfl)) ?_; (with_reducible refine (spec_l71Do.calls k1 g s0_0 x1001_1 a2 t550 t551 t552 t553 w0 _ ?side1 ?side2 A9.out).mono ?_); (case side1 => repeat (first | (with_reducible first | exact HI0.out | apply IsS116.alloc | apply IsS116.drewN | apply IsS116.drew | apply IsS116.set_1) | exact HI0.out)); (case side2 => repeat (first | (with_reducible first | exact HB.out | apply below_alloc | apply pw_below_drewN | apply below_drew1 | refine below_set ?_ (IsS116.ge HI0.out)) | exact HB.out)); rintro e w11 ⟨rfl, hi, hb, hk⟩; refine ⟨_, rfl, ?_⟩; have n0_ := am_ (Kd.R_mono (Kd.R_keep (IsS116.apart (show IsS116 w0 _ g s0_0 x1001_1 from by repeat (first | (with_reducible first | exact HI0.out | apply IsS116.alloc | apply IsS116.drewN | apply IsS116.drew | apply IsS116.set_1) | exact HI0.out)) (ru HO_7.out) (by decide)) hk (fun _ h => h.2)) (fun _ h => h.1)); have n1_ := am_ (KeepBut.trans z86_1 hk (.inl rfl)); have n2_ := am_ (hb); have n3_ := am_ (hi); clear HO_7 HK HB HI0; have HO_7 := n0_; have HK := n1_; have HB := n2_; have HI0 := n3_; clear n0_ n1_ n2_ n3_; (try clear hb); (try clear hb2); (try clear hk); (try clear hi)) | ((with_reducible refine gate_builtin (b := .append) (xs := #[.tmp 18, .tmp 22]) rfl ?_); at_builtin; refine Kd.R_append k85 w.heap.size rfl (.tmp 18) (.tmp 22) 82 85 (.agg #[(.int .i64 0), (.int .i64 0), (.int .i64 0)]) 24 rfl Try.underlying82 info85 rfl (by decide) (by omega) u7 x7_1 (⟨t550, t551, t552⟩ : S85) [.int .i64 t550, .int .i64 t551, .int .i64 t552] (fun _ => True) (fun _ => False) rfl rfl ?aP (fun _ hk => hk.elim) ?aF ?aO (Below.refl _ _) ?aS ?aL ?_; (case aP => exact k85_mkM _ _ _ (⟨t550, t551, t552⟩ : S85)); (case aF => exact (fun _ _ => trivial)); (case aO => exact (ru HO_7.out)); (case aS => exact (keep_size (w := w) (g := g) (row := none) z86_1)); (case aL => have := LMc10.out; omega); intro v555 w12 ho hb hg hat; rw [← Ny554.out] at ho; have n0_ := am_ (IsS116.grown z86_2 hg (IsS116.own_ne HI0.out HO_7.out (by decide))); have n1_ := am_ (below_weaken z86_3 HL.out hb); have n2_ := am_ (KeepBut.trans z86_1 (KeepBut.of_grown hg g) (Kd.R_base2 HO_7.out)); have n3_ := am_ (ho); clear HI0 HB HK HO_7; have HI0 := n0_; have HB := n1_; have HK := n2_; have HO556 := n3_; clear n0_ n1_ n2_ n3_; clear ho hb hg hat))
     go_roundg k1
     case measure => have := HK1.out; omega
     case rel => exact ⟨(y554), (wrap64 (x8_1 - 1)), (t553), (by first | rfl | (simp; done) | (simp [*]; done)), H', ⟨by have := HK1.out; omega⟩, ⟨ru HO556.out⟩, ⟨z86_2⟩, ⟨z86_1⟩, ⟨z86_3⟩⟩
    ·rw [if_neg c10] at H
     exact absurd H (by simp)
   ·rw [if_neg c8] at H
    have c8b0 : decide (0 < x8_1) = false := decide_eq_false c8
    clear c8
    simp only [Option.some.injEq, Prod.mk.injEq] at H
    obtain ⟨rfl, rfl⟩ := H
    go_wp2
    go_ret
    exact ⟨_, by first | rfl | (simp [errW_none, errW_some] <;> rfl) | (simp [*, errW_none, errW_some] <;> rfl), ru HO_7.out, z86_2, z86_3, z86_1⟩

end Go.Proofs.Ytefkbmhkhpekjaa.PB

namespace Go.Proofs.Ytefkbmhkhpekjaa.PB
open Go.RowKit Go.Proofs.YtefkbmhkhpekjaaW.PrintWords Go.Proofs.YtefkbmhkhpekjaaW.PrintLast Go.Proofs.YtefkbmhkhpekjaaW.PrintMore
attribute [local go_sem] max2_int min2_int max_two min_two max_three min_three max_four min_four   -- for this text's walks alone
open Go.Proofs.YtefkbmhkhpekjaaMine
set_option linter.unusedVariables false
set_option linter.unusedSimpArgs false

theorem z134_1 {p : Prop} (h : p := by first | (with_reducible assumption) | assumption) : p := h
theorem z134_2 {p : Prop} (h : p := by first | rfl | (simp [errW_none, errW_some] <;> rfl) | (simp [*, errW_none, errW_some] <;> rfl)) : p := h
theorem z134_3 {p : Prop} (h : p := by repeat (first | (with_reducible first | exact HK.out | apply KeepBut.set_ | apply keep_drewN | apply keep_drew | apply keep_alloc) | exact HK.out)) : p := h
theorem z134_4 {p : Prop} (h : p := by repeat (first | (with_reducible first | exact HI0.out | apply IsS116.alloc | apply IsS116.drewN | apply IsS116.drew | apply IsS116.set_1) | exact HI0.out)) : p := h
theorem z134_5 {p : Prop} (h : p := by repeat (first | (with_reducible first | exact HB.out | apply below_alloc | apply pw_below_drewN | apply below_drew1 | refine below_set ?_ (IsS116.ge HI0.out)) | exact HB.out)) : p := h
/-! ### spec_l71Reader: function 134 -/
def spec_l71Reader.f (k : Nat) (s0_0 : List Int) (s0_1 : Int) (a1 : Int) : Option ((List (S85)) × Int) := (spec_l6Rd_pick.f k s0_0 s0_1 a1).bind fun bt677 => ((spec_l6Rd_pick.f k s0_0 bt677.2 a1).bind fun bt679 => ((some (([(⟨7, 0, 0⟩ : S85), (⟨2, bt677.1, 0⟩ : S85), (⟨2, bt679.1, 0⟩ : S85), (⟨8, 0, 0⟩ : S85)] : List (S85)) : List (S85))).bind fun y681 => ((spec_l6Rd_pick.f k s0_0 bt679.2 3).bind fun bt684 => (if bt684.1 = 0 then ((spec_l71Do.f k s0_0 bt684.2 a1).bind fun bt686 => (if 2 < (y681.length : Int) then (some ((y681.set (2 : Int).toNat (⟨bt686.1, bt686.2.1, bt686.2.2.1⟩ : S85)), bt686.2.2.2)) else (none))) else (some (y681, bt684.2))))))
theorem spec_l71Reader.mono : ∀ a0 a1 a2 k, LeO (spec_l71Reader.f k a0 a1 a2) (spec_l71Reader.f (k + 1) a0 a1 a2) := by
  intro a0 a1 a2 k
  unfold spec_l71Reader.f
  repeat' first
      | (with_reducible exact spec_l6Rd_pick.mono _ _ _ _)
      | (with_reducible exact spec_l71Do.mono _ _ _ _)
      | (with_reducible exact LeO.refl _)
      | (with_reducible exact LeO.none _)
      | (with_reducible refine LeO.ite ?_ ?_)
      | (with_reducible refine LeO.bind ?_ (fun _ => ?_))
      | exact spec_l6Rd_pick.mono _ _ _ _
      | exact spec_l71Do.mono _ _ _ _
      | exact LeO.none _
      | refine LeO.ite ?_ ?_
      | refine LeO.bind ?_ (fun _ => ?_)
set_option maxHeartbeats 8000000 in
set_option maxRecDepth 100000 in
theorem spec_l71Reader.calls (k : Nat) (g : Nat) (s0_0 : List Int) (s0_1 : Int) (a1 : Int) (r1 : List (S85)) (r2 : Int) (w0 w : World) (hI : IsS116 w0 w g s0_0 s0_1) (hB : Below w0.heap.size w0 w) (h : spec_l71Reader.f k s0_0 s0_1 a1 = some (r1, r2)) :
  Calls Try.prog 134 #[.pointer (some ⟨g, 0, none⟩), .int .i64 a1] w fun e w' => ∃ v0_ : Value, e = .returned (v0_) ∧ Kd.R k85 85 w' w.heap.size (fun _ => True) v0_ r1 ∧ IsS116 w0 w' g s0_0 r2 ∧ Below w0.heap.size w0 w' ∧ KeepBut w w' g none := by
 have hu85 := Try.underlying85
 have HI0 := am_ hI
 have HK := am_ (KeepBut.refl w g none)
 have HL := am_ hB.size
 clear hI
 have HW0 := am_ hB.size
 have HB := am_ hB
 clear hB
 have H : ((spec_l6Rd_pick.f k s0_0 s0_1 a1).bind fun bt677 => ((spec_l6Rd_pick.f k s0_0 bt677.2 a1).bind fun bt679 => ((some (([(⟨7, 0, 0⟩ : S85), (⟨2, bt677.1, 0⟩ : S85), (⟨2, bt679.1, 0⟩ : S85), (⟨8, 0, 0⟩ : S85)] : List (S85)) : List (S85))).bind fun y681 => ((spec_l6Rd_pick.f k s0_0 bt679.2 3).bind fun bt684 => (if bt684.1 = 0 then ((spec_l71Do.f k s0_0 bt684.2 a1).bind fun bt686 => (if 2 < (y681.length : Int) then (some ((y681.set (2 : Int).toNat (⟨bt686.1, bt686.2.1, bt686.2.2.1⟩ : S85)), bt686.2.2.2)) else (none))) else (some (y681, bt684.2))))))) = some (r1, r2) := h
 clear h
 replace H := Option.bind_eq_some_iff.mp H
 obtain ⟨⟨t677, t678⟩, A30, H⟩ := H
 replace H : ((spec_l6Rd_pick.f k s0_0 t678 a1).bind fun bt679 => ((some (([(⟨7, 0, 0⟩ : S85), (⟨2, t677, 0⟩ : S85), (⟨2, bt679.1, 0⟩ : S85), (⟨8, 0, 0⟩ : S85)] : List (S85)) : List (S85))).bind fun y681 => ((spec_l6Rd_pick.f k s0_0 bt679.2 3).bind fun bt684 => (if bt684.1 = 0 then ((spec_l71Do.f k s0_0 bt684.2 a1).bind fun bt686 => (if 2 < (y681.length : Int) then (some ((y681.set (2 : Int).toNat (⟨bt686.1, bt686.2.1, bt686.2.2.1⟩ : S85)), bt686.2.2.2)) else (none))) else (some (y681, bt684.2)))))) = some (r1, r2) := H
 have A3 := am_ A30
 clear A30
 replace H := Option.bind_eq_some_iff.mp H
 obtain ⟨⟨t679, t680⟩, A40, H⟩ := H
 replace H : ((some (([(⟨7, 0, 0⟩ : S85), (⟨2, t677, 0⟩ : S85), (⟨2, t679, 0⟩ : S85), (⟨8, 0, 0⟩ : S85)] : List (S85)) : List (S85))).bind fun y681 => ((spec_l6Rd_pick.f k s0_0 t680 3).bind fun bt684 => (if bt684.1 = 0 then ((spec_l71Do.f k s0_0 bt684.2 a1).bind fun bt686 => (if 2 < (y681.length : Int) then (some ((y681.set (2 : Int).toNat (⟨bt686.1, bt686.2.1, bt686.2.2.1⟩ : S85)), bt686.2.2.2)) else (none))) else (some (y681, bt684.2))))) = some (r1, r2) := H
 have A4 := am_ A40
 clear A40
 obtain ⟨y681, hy681⟩ : ∃ y_ : List (S85), y_ = (([(⟨7, 0, 0⟩ : S85), (⟨2, t677, 0⟩ : S85), (⟨2, t679, 0⟩ : S85), (⟨8, 0, 0⟩ : S85)] : List (S85))) := ⟨_, rfl⟩
 replace H : ((spec_l6Rd_pick.f k s0_0 t680 3).bind fun bt684 => (if bt684.1 = 0 then ((spec_l71Do.f k s0_0 bt684.2 a1).bind fun bt686 => (if 2 < (y681.length : Int) then (some ((y681.set (2 : Int).toNat (⟨bt686.1, bt686.2.1, bt686.2.2.1⟩ : S85)), bt686.2.2.2)) else (none))) else (some (y681, bt684.2)))) = some (r1, r2) := by first | (rw [hy681]; with_reducible exact H) | (have H2_ := (Option.bind_some _ _).symm.trans H; rw [hy681]; with_reducible exact H2_) | (have H2_ := (Option.bind_some _ _).symm.trans H; with_reducible exact H2_) | with_reducible exact H | (rw [hy681]; exact H) | exact H
 have Ny681 := am_ hy681
 clear hy681
 replace H := Option.bind_eq_some_iff.mp H
 obtain ⟨⟨t684, t685⟩, A50, H⟩ := H
 replace H : (if t684 = 0 then ((spec_l71Do.f k s0_0 t685 a1).bind fun bt686 => (if 2 < (y681.length : Int) then (some ((y681.set (2 : Int).toNat (⟨bt686.1, bt686.2.1, bt686.2.2.1⟩ : S85)), bt686.2.2.2)) else (none))) else (some (y681, t685))) = some (r1, r2) := H
 have A5 := am_ A50
 clear A50
 by_cases c6 : t684 = 0
 ·rw [if_pos c6] at H
  have c6b0 : (t684 == 0) = true := beq_iff_eq.mpr c6
  have c6b1 : (t684 != 0) = false := bne_eq_false_iff_eq.mpr c6
  clear c6
  replace H := Option.bind_eq_some_iff.mp H
  obtain ⟨⟨t686, t687, t688, t689⟩, A70, H⟩ := H
  replace H : (if 2 < (y681.length : Int) then (some ((y681.set (2 : Int).toNat (⟨t686, t687, t688⟩ : S85)), t689)) else (none)) = some (r1, r2) := H
  have A7 := am_ A70
  clear A70
  by_cases c8 : 2 < (y681.length : Int)
  ·rw [if_pos c8] at H
   have c8b0 : decide (2 < (y681.length : Int)) = true := decide_eq_true c8
   have c8b1 : decide (2 < y681.length) = true := decide_eq_true (by omega)
   clear c8
   obtain ⟨y690, hy690⟩ : ∃ y_ : List (S85), y_ = (y681.set (2 : Int).toNat (⟨t686, t687, t688⟩ : S85)) := ⟨_, rfl⟩
   replace H : (some (y690, t689)) = some (r1, r2) := by first | (rw [hy690]; with_reducible exact H) | (have H2_ := (Option.bind_some _ _).symm.trans H; rw [hy690]; with_reducible exact H2_) | (have H2_ := (Option.bind_some _ _).symm.trans H; with_reducible exact H2_) | with_reducible exact H | (rw [hy690]; exact H) | exact H
   have Ny690 := am_ hy690
   clear hy690
   simp only [Option.some.injEq, Prod.mk.injEq] at H
   obtain ⟨rfl, rfl⟩ := H
   go_enter Try.func134, Try.ntmps134
   go_wp2_with (first | ((with_reducible refine gate_callee (f := 71) rfl ?_); refine goesL_ (some 9) rfl rfl Try.func71 (by kernel_rfl) rfl #[.pointer (some ⟨g, 0, none⟩), .int .i64 a1] rfl (by (try simp only [List.map_toArray, List.map_cons, List.map_nil]); first | done | rfl | (simp only [List.length_drop, List.length_take]; rfl)) ?_; (with_reducible refine (spec_l6Rd_pick.calls k g s0_0 s0_1 a1 t677 t678 w0 _ ?side1 ?side2 A3.out).mono ?_); (case side1 => repeat (first | (with_reducible first | exact HI0.out | apply IsS116.alloc | apply IsS116.drewN | apply IsS116.drew | apply IsS116.set_1) | exact HI0.out)); (case side2 => repeat (first | (with_reducible first | exact HB.out | apply below_alloc | apply pw_below_drewN | apply below_drew1 | refine below_set ?_ (IsS116.ge HI0.out)) | exact HB.out)); rintro e w10 ⟨rfl, hi, hb, hk⟩; refine ⟨_, rfl, ?_⟩; have n0_ := am_ (KeepBut.trans z134_3 hk (.inl rfl)); have n1_ := am_ (hb); have n2_ := am_ (hi); clear HK HB HI0; have HK := n0_; have HB := n1_; have HI0 := n2_; clear n0_ n1_ n2_; (try clear hb); (try clear hb2); (try clear hk); (try clear hi)) | ((with_reducible refine gate_callee (f := 71) rfl ?_); refine goesL_ (some 13) rfl rfl Try.func71 (by kernel_rfl) rfl #[.pointer (some ⟨g, 0, none⟩), .int .i64 a1] rfl (by (try simp only [List.map_toArray, List.map_cons, List.map_nil]); first | done | rfl | (simp only [List.length_drop, List.length_take]; rfl)) ?_; (with_reducible refine (spec_l6Rd_pick.calls k g s0_0 t678 a1 t679 t680 w0 _ ?side1 ?side2 A4.out).mono ?_); (case side1 => repeat (first | (with_reducible first | exact HI0.out | apply IsS116.alloc | apply IsS116.drewN | apply IsS116.drew | apply IsS116.set_1) | exact HI0.out)); (case side2 => repeat (first | (with_reducible first | exact HB.out | apply below_alloc | apply pw_below_drewN | apply below_drew1 | refine below_set ?_ (IsS116.ge HI0.out)) | exact HB.out)); rintro e w11 ⟨rfl, hi, hb, hk⟩; refine ⟨_, rfl, ?_⟩; have n0_ := am_ (KeepBut.trans z134_3 hk (.inl rfl)); have n1_ := am_ (hb); have n2_ := am_ (hi); clear HK HB HI0; have HK := n0_; have HB := n1_; have HI0 := n2_; clear n0_ n1_ n2_; (try clear hb); (try clear hb2); (try clear hk); (try clear hi)) | ((with_reducible refine gate_dst (N := 16) rfl ?_); refine Kd.R_lit k85 _ 85 ?hg (N := 16) ?hd (xs := ([(⟨7, 0, 0⟩ : S85), (⟨2, t677, 0⟩ : S85), (⟨2, t679, 0⟩ : S85), (⟨8, 0, 0⟩ : S85)] : List (S85))) (inner := [.int .i64 7, .int .i64 0, .int .i64 0, .int .i64 2, .int .i64 t677, .int .i64 0, .int .i64 2, .int .i64 t679, .int .i64 0, .int .i64 8, .int .i64 0, .int .i64 0]) (ok := fun _ => True) (okp := fun _ => True) ?hr ?hp (fun _ hk => hk) trivial (Below.refl _ _) (Nat.le_refl _) (by simp) ?_; (case hd => rfl); (case hg => rfl); (case hr => first | (go_simp; done) | (go_simp; rfl)); (case hp => exact (Reps.c3 (show Kd.M k85 _ _ _ (⟨7, 0, 0⟩ : S85) [.int .i64 7, .int .i64 0, .int .i64 0] from (k85_mkM _ _ _ (⟨7, 0, 0⟩ : S85) )) (Reps.c3 (show Kd.M k85 _ _ _ (⟨2, t677, 0⟩ : S85) [.int .i64 2, .int .i64 t677, .int .i64 0] from (k85_mkM _ _ _ (⟨2, t677, 0⟩ : S85) )) (Reps.c3 (show Kd.M k85 _ _ _ (⟨2, t679, 0⟩ : S85) [.int .i64 2, .int .i64 t679, .int .i64 0] from (k85_mkM _ _ _ (⟨2, t679, 0⟩ : S85) )) (Reps.c3 (show Kd.M k85 _ _ _ (⟨8, 0, 0⟩ : S85) [.int .i64 8, .int .i64 0, .int .i64 0] from (k85_mkM _ _ _ (⟨8, 0, 0⟩ : S85) )) (Reps.none _ _)))))); intro v682 w12 ho13 hb hg_ hnew_; clear hg_ hnew_; (first | rw [← Ny681.out] at ho13 | (simp only [Int.reduceToNat] at ho13; rw [← Ny681.out] at ho13)); have n0_ := am_ (Kd.R_lower ho13 (keep_size (w := w) (g := g) (row := none) z134_3)); have n1_ := am_ (IsS116.below z134_4 hb); have n2_ := am_ (KeepBut.trans z134_3 (KeepBut.of_below hb g none) (.inl rfl)); have n3_ := am_ (below_step z134_5 hb); clear HI0 HK HB; have HO683 := n0_; have HI0 := n1_; have HK := n2_; have HB := n3_; clear n0_ n1_ n2_ n3_; clear hb ho13) | ((with_reducible refine gate_callee (f := 71) rfl ?_); refine goesL_ (some 18) rfl rfl Try.func71 (by kernel_rfl) rfl #[.pointer (some ⟨g, 0, none⟩), .int .i64 3] rfl (by (try simp only [List.map_toArray, List.map_cons, List.map_nil]); first | done | rfl | (simp only [List.length_drop, List.length_take]; rfl)) ?_; (with_reducible refine (spec_l6Rd_pick.calls k g s0_0 t680 3 t684 t685 w0 _ ?side1 ?side2 A5.out).mono ?_); (case side1 => repeat (first | (with_reducible first | exact HI0.out | apply IsS116.alloc | apply IsS116.drewN | apply IsS116.drew | apply IsS116.set_1) | exact HI0.out)); (case side2 => repeat (first | (with_reducible first | exact HB.out | apply below_alloc | apply pw_below_drewN | apply below_drew1 | refine below_set ?_ (IsS116.ge HI0.out)) | exact HB.out)); rintro e w14 ⟨rfl, hi, hb, hk⟩; refine ⟨_, rfl, ?_⟩; have n0_ := am_ (Kd.R_mono (Kd.R_keep (IsS116.apart (show IsS116 w0 _ g s0_0 t680 from by repeat (first | (with_reducible first | exact HI0.out | apply IsS116.alloc | apply IsS116.drewN | apply IsS116.drew | apply IsS116.set_1) | exact HI0.out)) (ru HO683.out) (by decide)) hk (fun _ h => h.2)) (fun _ h => h.1)); have n1_ := am_ (KeepBut.trans z134_3 hk (.inl rfl)); have n2_ := am_ (hb); have n3_ := am_ (hi); clear HO683 HK HB HI0; have HO683 := n0_; have HK := n1_; have HB := n2_; have HI0 := n3_; clear n0_ n1_ n2_ n3_; (try clear hb); (try clear hb2); (try clear hk); (try clear hi)) | ((with_reducible refine gate_callee (f := 121) rfl ?_); refine goesL_ (some 23) rfl rfl Try.func121 (by kernel_rfl) rfl #[.pointer (some ⟨g, 0, none⟩), .int .i64 a1] rfl (by (try simp only [List.map_toArray, List.map_cons, List.map_nil]); first | done | rfl | (simp only [List.length_drop, List.length_take]; rfl)) ?_; (with_reducible refine (spec_l71Do.calls k g s0_0 t685 a1 t686 t687 t688 t689 w0 _ ?side1 ?side2 A7.out).mono ?_); (case side1 => repeat (first | (with_reducible first | exact HI0.out | apply IsS116.alloc | apply IsS116.drewN | apply IsS116.drew | apply IsS116.set_1) | exact HI0.out)); (case side2 => repeat (first | (with_reducible first | exact HB.out | apply below_alloc | apply pw_below_drewN | apply below_drew1 | refine below_set ?_ (IsS116.ge HI0.out)) | exact HB.out)); rintro e w15 ⟨rfl, hi, hb, hk⟩; refine ⟨_, rfl, ?_⟩; have n0_ := am_ (Kd.R_mono (Kd.R_keep (IsS116.apart (show IsS116 w0 _ g s0_0 t685 from by repeat (first | (with_reducible first | exact HI0.out | apply IsS116.alloc | apply IsS116.drewN | apply IsS116.drew | apply IsS116.set_1) | exact HI0.out)) (ru HO683.out) (by decide)) hk (fun _ h => h.2)) (fun _ h => h.1)); have n1_ := am_ (KeepBut.trans z134_3 hk (.inl rfl)); have n2_ := am_ (hb); have n3_ := am_ (hi); clear HO683 HK HB HI0; have HO683 := n0_; have HK := n1_; have HB := n2_; have HI0 := n3_; clear n0_ n1_ n2_ n3_; (try clear hb); (try clear hb2); (try clear hk); (try clear hi); have p9 : 0 ≤ (2 : Int) := (by omega); have q9 : (2 : Int) < ((y681.length : Int) : Int) := of_decide_eq_true z134_1; have qi9 : (2 < y681.length) = True := eq_true (by omega); obtain ⟨go9, co9, eo9, gb9, gl9, cl9, HG9⟩ := Kd.R_form HO683.out (by omega); (first | cases eo9 | (injection eo9 with ea_ en_ ec_; (first | subst ea_ | (injection ea_ with ea_; subst ea_)); subst ec_; clear en_)); have GB9 := am_ gb9; have GG9 := am_ HG9; clear gb9 gl9 HG9; obtain ⟨ce9, hcl9, hM9, hcc9, hfr9⟩ := Kd.R_elem HO683.out z85 (2 : Int) p9 q9; obtain rfl := k85_openM hM9; have hx9_0 : w15.cell? ⟨go9, (2 : Int).toNat * 3, none⟩ = some (.int .i64 ((rd_T85 y681 2).f0)) := hcc9 0 _ rfl; have hx9_1 : w15.cell? ⟨go9, (2 : Int).toNat * 3 + 1, none⟩ = some (.int .i64 ((rd_T85 y681 2).f1)) := hcc9 1 _ rfl; have hx9_2 : w15.cell? ⟨go9, (2 : Int).toNat * 3 + 2, none⟩ = some (.int .i64 ((rd_T85 y681 2).f2)) := hcc9 2 _ rfl; have hf9_0 : w15.frozen? ⟨go9, (2 : Int).toNat * 3, none⟩ = false := hfr9 0; have hf9_1 : w15.frozen? ⟨go9, (2 : Int).toNat * 3 + 1, none⟩ = false := hfr9 1; have hf9_2 : w15.frozen? ⟨go9, (2 : Int).toNat * 3 + 2, none⟩ = false := hfr9 2; clear hcl9 hcc9 hfr9 hM9; (try rw [show ((2 : Int)).toNat = 2 from rfl] at hx9_0); (try simp only [Nat.reduceMul, Nat.zero_mul, Nat.zero_add, Nat.reduceAdd] at hx9_0); (try rw [show ((2 : Int)).toNat = 2 from rfl] at hf9_0); (try simp only [Nat.reduceMul, Nat.zero_mul, Nat.zero_add, Nat.reduceAdd] at hf9_0); (try rw [show ((2 : Int)).toNat = 2 from rfl] at hx9_1); (try simp only [Nat.reduceMul, Nat.zero_mul, Nat.zero_add, Nat.reduceAdd] at hx9_1); (try rw [show ((2 : Int)).toNat = 2 from rfl] at hf9_1); (try simp only [Nat.reduceMul, Nat.zero_mul, Nat.zero_add, Nat.reduceAdd] at hf9_1); (try rw [show ((2 : Int)).toNat = 2 from rfl] at hx9_2); (try simp only [Nat.reduceMul, Nat.zero_mul, Nat.zero_add, Nat.reduceAdd] at hx9_2); (try rw [show ((2 : Int)).toNat = 2 from rfl] at hf9_2); (try simp only [Nat.reduceMul, Nat.zero_mul, Nat.zero_add, Nat.reduceAdd] at hf9_2); replace p9 := eq_true p9; replace q9 := eq_true q9; have HX16 := am_ (show Kd.R k85 85 w15 w.heap.size (fun _ => True) (.slice (some ⟨go9, 0, none⟩) y681.length co9) y681 from (ru HO683.out)); obtain ⟨ce16, hcl16, hM16, hcc16, hfr16⟩ := Kd.R_elem HX16.out z85 (2 : Int) (by omega) (by have h_ : (2 : Int) < ((y681.length : Int) : Int) := of_decide_eq_true z134_1; first | exact h_ | (have e_ := (Kd.R_reads' HO683.out).1; omega) | simpa using h_); obtain rfl := k85_openM hM16; have HP16 := Kd.R_seg HX16.out (2 : Int) (by omega) (by have h_ : (2 : Int) < ((y681.length : Int) : Int) := of_decide_eq_true z134_1; first | exact h_ | (have e_ := (Kd.R_reads' HO683.out).1; omega) | simpa using h_) (seg := [.int .i64 t686, .int .i64 t687, .int .i64 t688]) (j := 0) hcl16 hcc16 (show 3 ≤ 3 from by decide) (x' := (⟨t686, t687, t688⟩ : S85)) (k85_mkM _ _ _ (⟨t686, t687, t688⟩ : S85) ) (fun _ hk => hk); have hx16_0 := hcc16 0 _ rfl; (try simp only [show (k85).sz = 3 from rfl, Nat.mul_one, Nat.add_zero] at hx16_0); (try rw [show ((2 : Int)).toNat = 2 from rfl] at hx16_0); (try simp only [Nat.reduceMul, Nat.zero_mul, Nat.zero_add, Nat.reduceAdd] at hx16_0); have hf16_0 := hfr16 0; (try simp only [show (k85).sz = 3 from rfl, Nat.mul_one, Nat.add_zero] at hf16_0); (try rw [show ((2 : Int)).toNat = 2 from rfl] at hf16_0); (try simp only [Nat.reduceMul, Nat.zero_mul, Nat.zero_add, Nat.reduceAdd] at hf16_0); have hx16_1 := hcc16 1 _ rfl; (try simp only [show (k85).sz = 3 from rfl, Nat.mul_one, Nat.add_zero] at hx16_1); (try rw [show ((2 : Int)).toNat = 2 from rfl] at hx16_1); (try simp only [Nat.reduceMul, Nat.zero_mul, Nat.zero_add, Nat.reduceAdd] at hx16_1); have hf16_1 := hfr16 1; (try simp only [show (k85).sz = 3 from rfl, Nat.mul_one, Nat.add_zero] at hf16_1); (try rw [show ((2 : Int)).toNat = 2 from rfl] at hf16_1); (try simp only [Nat.reduceMul, Nat.zero_mul, Nat.zero_add, Nat.reduceAdd] at hf16_1); have hx16_2 := hcc16 2 _ rfl; (try simp only [show (k85).sz = 3 from rfl, Nat.mul_one, Nat.add_zero] at hx16_2); (try rw [show ((2 : Int)).toNat = 2 from rfl] at hx16_2); (try simp only [Nat.reduceMul, Nat.zero_mul, Nat.zero_add, Nat.reduceAdd] at hx16_2); have hf16_2 := hfr16 2; (try simp only [show (k85).sz = 3 from rfl, Nat.mul_one, Nat.add_zero] at hf16_2); (try rw [show ((2 : Int)).toNat = 2 from rfl] at hf16_2); (try simp only [Nat.reduceMul, Nat.zero_mul, Nat.zero_add, Nat.reduceAdd] at hf16_2); clear hcl16 hcc16 hfr16 hM16) | ((with_reducible refine gate_store (t := 85) (p := 24) rfl ?_); refine store_event (t := 85) (p := 24) (v := ?vo_w17) (w1 := (((w15.setCell ⟨go9, 6, none⟩ (.int .i64 t686)).setCell ⟨go9, 7, none⟩ (.int .i64 t687)).setCell ⟨go9, 8, none⟩ (.int .i64 t688))) ?hg ?ho ?hn ?hr ?_; (case ho => rfl); (case hg => rfl); (case hn => rfl); (case hr => first | (go_simp; done) | (go_simp; rfl)); intro w17 hw; have hg : w15.grownBy w17 (some go9) := (by rw [hw]; exact HP16.2); have hp_ : Kd.R k85 85 w17 w.heap.size (fun _ => True) (.slice (some ⟨go9, 0, none⟩) y681.length co9) y690 := (by rw [hw, Ny690.out]; exact HP16.1); clear HP16; have n0_ := am_ (IsS116.grown z134_4 hg (IsS116.own_ne HI0.out HO683.out (by decide))); have n1_ := am_ (hp_); have n2_ := am_ (by rw [hw]; exact below_set (below_set (below_set (HB.out) (Nat.le_trans HL.out GB9.out)) (Nat.le_trans HL.out GB9.out)) (Nat.le_trans HL.out GB9.out) : Below w0.heap.size w0 w17); have n3_ := am_ (KeepBut.trans z134_3 (KeepBut.of_grown hg g) (Kd.R_base2 HO683.out)); clear HI0 HO683 HB HK; have HI0 := n0_; have HO683 := n1_; have HB := n2_; have HK := n3_; clear n0_ n1_ n2_ n3_; clear hg hw hp_))
   go_ret
   exact ⟨_, z134_2, ru HO683.out, z134_4, z134_5, z134_3⟩
  ·rw [if_neg c8] at H
   exact absurd H (by simp)
 ·rw [if_neg c6] at H
  have c6b0 : (t684 == 0) = false := beq_eq_false_iff_ne.mpr c6
  have c6b1 : (t684 != 0) = true := bne_iff_ne.mpr c6
  simp only [Option.some.injEq, Prod.mk.injEq] at H
  obtain ⟨rfl, rfl⟩ := H
  go_enter Try.func134, Try.ntmps134
  go_wp2_with (first | ((with_reducible refine gate_callee (f := 71) rfl ?_); refine goesL_ (some 9) rfl rfl Try.func71 (by kernel_rfl) rfl #[.pointer (some ⟨g, 0, none⟩), .int .i64 a1] rfl (by (try simp only [List.map_toArray, List.map_cons, List.map_nil]); first | done | rfl | (simp only [List.length_drop, List.length_take]; rfl)) ?_; (with_reducible refine (spec_l6Rd_pick.calls k g s0_0 s0_1 a1 t677 t678 w0 _ ?side1 ?side2 A3.out).mono ?_); (case side1 => repeat (first | (with_reducible first | exact HI0.out | apply IsS116.alloc | apply IsS116.drewN | apply IsS116.drew | apply IsS116.set_1) | exact HI0.out)); (case side2 => repeat (first | (with_reducible first | exact HB.out | apply below_alloc | apply pw_below_drewN | apply below_drew1 | refine below_set ?_ (IsS116.ge HI0.out)) | exact HB.out)); rintro e w18 ⟨rfl, hi, hb, hk⟩; refine ⟨_, rfl, ?_⟩; have n0_ := am_ (KeepBut.trans z134_3 hk (.inl rfl)); have n1_ := am_ (hb); have n2_ := am_ (hi); clear HK HB HI0; have HK := n0_; have HB := n1_; have HI0 := n2_; clear n0_ n1_ n2_; (try clear hb); (try clear hb2); (try clear hk); (try clear hi)) | ((with_reducible refine gate_callee (f := 71) rfl ?_); refine goesL_ (some 13) rfl rfl Try.func71 (by kernel_rfl) rfl #[.pointer (some ⟨g, 0, none⟩), .int .i64 a1] rfl (by (try simp only [List.map_toArray, List.map_cons, List.map_nil]); first | done | rfl | (simp only [List.length_drop, List.length_take]; rfl)) ?_; (with_reducible refine (spec_l6Rd_pick.calls k g s0_0 t678 a1 t679 t680 w0 _ ?side1 ?side2 A4.out).mono ?_); (case side1 => repeat (first | (with_reducible first | exact HI0.out | apply IsS116.alloc | apply IsS116.drewN | apply IsS116.drew | apply IsS116.set_1) | exact HI0.out)); (case side2 => repeat (first | (with_reducible first | exact HB.out | apply below_alloc | apply pw_below_drewN | apply below_drew1 | refine below_set ?_ (IsS116.ge HI0.out)) | exact HB.out)); rintro e w19 ⟨rfl, hi, hb, hk⟩; refine ⟨_, rfl, ?_⟩; have n0_ := am_ (KeepBut.trans z134_3 hk (.inl rfl)); have n1_ := am_ (hb); have n2_ := am_ (hi); clear HK HB HI0; have HK := n0_; have HB := n1_; have HI0 := n2_; clear n0_ n1_ n2_; (try clear hb); (try clear hb2); (try clear hk); (try clear hi)) | ((with_reducible refine gate_dst (N := 16) rfl ?_); refine Kd.R_lit k85 _ 85 ?hg (N := 16) ?hd (xs := ([(⟨7, 0, 0⟩ : S85), (⟨2, t677, 0⟩ : S85), (⟨2, t679, 0⟩ : S85), (⟨8, 0, 0⟩ : S85)] : List (S85))) (inner := [.int .i64 7, .int .i64 0, .int .i64 0, .int .i64 2, .int .i64 t677, .int .i64 0, .int .i64 2, .int .i64 t679, .int .i64 0, .int .i64 8, .int .i64 0, .int .i64 0]) (ok := fun _ => True) (okp := fun _ => True) ?hr ?hp (fun _ hk => hk) trivial (Below.refl _ _) (Nat.le_refl _) (by simp) ?_; (case hd => rfl); (case hg => rfl); (case hr => first | (go_simp; done) | (go_simp; rfl)); (case hp => exact (Reps.c3 (show Kd.M k85 _ _ _ (⟨7, 0, 0⟩ : S85) [.int .i64 7, .int .i64 0, .int .i64 0] from (k85_mkM _ _ _ (⟨7, 0, 0⟩ : S85) )) (Reps.c3 (show Kd.M k85 _ _ _ (⟨2, t677, 0⟩ : S85) [.int .i64 2, .int .i64 t677, .int .i64 0] from (k85_mkM _ _ _ (⟨2, t677, 0⟩ : S85) )) (Reps.c3 (show Kd.M k85 _ _ _ (⟨2, t679, 0⟩ : S85) [.int .i64 2, .int .i64 t679, .int .i64 0] from (k85_mkM _ _ _ (⟨2, t679, 0⟩ : S85) )) (Reps.c3 (show Kd.M k85 _ _ _ (⟨8, 0, 0⟩ : S85) [.int .i64 8, .int .i64 0, .int .i64 0] from (k85_mkM _ _ _ (⟨8, 0, 0⟩ : S85) )) (Reps.none _ _)))))); intro v682 w20 ho21 hb hg_ hnew_; clear hg_ hnew_; (first | rw [← Ny681.out] at ho21 | (simp only [Int.reduceToNat] at ho21; rw [← Ny681.out] at ho21)); have n0_ := am_ (Kd.R_lower ho21 (keep_size (w := w) (g := g) (row := none) z134_3)); have n1_ := am_ (IsS116.below z134_4 hb); have n2_ := am_ (KeepBut.trans z134_3 (KeepBut.of_below hb g none) (.inl rfl)); have n3_ := am_ (below_step z134_5 hb); clear HI0 HK HB; have HO683 := n0_; have HI0 := n1_; have HK := n2_; have HB := n3_; clear n0_ n1_ n2_ n3_; clear hb ho21) | ((with_reducible refine gate_callee (f := 71) rfl ?_); refine goesL_ (some 18) rfl rfl Try.func71 (by kernel_rfl) rfl #[.pointer (some ⟨g, 0, none⟩), .int .i64 3] rfl (by (try simp only [List.map_toArray, List.map_cons, List.map_nil]); first | done | rfl | (simp only [List.length_drop, List.length_take]; rfl)) ?_; (with_reducible refine (spec_l6Rd_pick.calls k g s0_0 t680 3 t684 t685 w0 _ ?side1 ?side2 A5.out).mono ?_); (case side1 => repeat (first | (with_reducible first | exact HI0.out | apply IsS116.alloc | apply IsS116.drewN | apply IsS116.drew | apply IsS116.set_1) | exact HI0.out)); (case side2 => repeat (first | (with_reducible first | exact HB.out | apply below_alloc | apply pw_below_drewN | apply below_drew1 | refine below_set ?_ (IsS116.ge HI0.out)) | exact HB.out)); rintro e w22 ⟨rfl, hi, hb, hk⟩; refine ⟨_, rfl, ?_⟩; have n0_ := am_ (Kd.R_mono (Kd.R_keep (IsS116.apart (show IsS116 w0 _ g s0_0 t680 from by repeat (first | (with_reducible first | exact HI0.out | apply IsS116.alloc | apply IsS116.drewN | apply IsS116.drew | apply IsS116.set_1) | exact HI0.out)) (ru HO683.out) (by decide)) hk (fun _ h => h.2)) (fun _ h => h.1)); have n1_ := am_ (KeepBut.trans z134_3 hk (.inl rfl)); have n2_ := am_ (hb); have n3_ := am_ (hi); clear HO683 HK HB HI0; have HO683 := n0_; have HK := n1_; have HB := n2_; have HI0 := n3_; clear n0_ n1_ n2_ n3_; (try clear hb); (try clear hb2); (try clear hk); (try clear hi)))
  go_ret
  exact ⟨_, z134_2, ru HO683.out, z134_4, z134_5, z134_3⟩

end Go.Proofs.Ytefkbmhkhpekjaa.PB

namespace Go.Proofs.Ytefkbmhkhpekjaa.PB
open Go.RowKit Go.Proofs.YtefkbmhkhpekjaaW.PrintWords Go.Proofs.YtefkbmhkhpekjaaW.PrintLast Go.Proofs.YtefkbmhkhpekjaaW.PrintMore
attribute [local go_sem] max2_int min2_int max_two min_two max_three min_three max_four min_four   -- for this text's walks alone
open Go.Proofs.YtefkbmhkhpekjaaMine
set_option linter.unusedVariables false
set_option linter.unusedSimpArgs false

theorem z135_1 {p : Prop} (h : p := by first | trivial | exact h_ | exact h_.1) : p := h
theorem z135_2 {p : Prop} (h : p := by repeat (first | (with_reducible first | exact HB.out | apply below_alloc | apply pw_below_drewN | apply below_drew1) | exact HB.out)) : p := h
theorem z135_3 {p : Prop} (h : p := by repeat (first | (with_reducible first | exact HK.out | apply KeepBut.set_ | apply keep_drewN | apply keep_drew | apply keep_alloc) | exact HK.out)) : p := h
theorem z135_4 {p : Prop} (h : p := by repeat (first | (with_reducible first | exact HI0.out | apply IsS116.alloc | apply IsS116.drewN | apply IsS116.drew | apply IsS116.set_1) | exact HI0.out)) : p := h
theorem z135_5 {p : Prop} (h : p := by repeat (first | (with_reducible first | exact HB.out | apply below_alloc | apply pw_below_drewN | apply below_drew1 | refine below_set ?_ (IsS116.ge HI0.out)) | exact HB.out)) : p := h
/-! ### spec_l71Waiter: function 135 -/
def spec_l71Waiter.f (k : Nat) (s0_0 : List Int) (s0_1 : Int) (a1 : Int) : Option ((List (S85)) × Int) := (spec_l6Rd_pick.f k s0_0 s0_1 a1).bind fun bt691 => ((spec_l6Rd_pick.f k s0_0 bt691.2 2).bind fun bt693 => ((some (([1, 6] : List Int) : List Int)).bind fun y695 => ((spec_l6Rd_pick.f k s0_0 bt693.2 2).bind fun bt698 => (if 0 ≤ bt698.1 then (if bt698.1 < (y695.length : Int) then ((spec_l6Rd_pick.f k s0_0 bt698.2 a1).bind fun bt701 => ((spec_l6Rd_pick.f k s0_0 bt701.2 2).bind fun bt703 => (some ((([(⟨1, bt691.1, wrap64 (1 + bt693.1)⟩ : S85), (⟨9, 0, 0⟩ : S85), (⟨rd y695 bt698.1, bt701.1, wrap64 (1 + bt703.1)⟩ : S85)] : List (S85))), bt703.2)))) else (none)) else (none)))))
theorem spec_l71Waiter.mono : ∀ a0 a1 a2 k, LeO (spec_l71Waiter.f k a0 a1 a2) (spec_l71Waiter.f (k + 1) a0 a1 a2) := by
  intro a0 a1 a2 k
  unfold spec_l71Waiter.f
  repeat' first
      | (with_reducible exact spec_l6Rd_pick.mono _ _ _ _)
      | (with_reducible exact LeO.refl _)
      | (with_reducible exact LeO.none _)
      | (with_reducible refine LeO.ite ?_ ?_)
      | (with_reducible refine LeO.bind ?_ (fun _ => ?_))
      | exact spec_l6Rd_pick.mono _ _ _ _
      | exact LeO.none _
      | refine LeO.ite ?_ ?_
      | refine LeO.bind ?_ (fun _ => ?_)
def spec_l71Waiter.T1 : Bool × List (List Nat × List Nat) := (true, [([], []), ([], []), ([0, 1], [0, 1]), ([], []), ([3, 2], [3]), ([4], [4]), ([2, 5], [2, 5]), ([], []), ([], []), ([], []), ([9, 4], [9]), ([8, 10], [8, 10]), ([11], [11]), ([], []), ([], []), ([13, 14, 10], [13, 14]), ([], []), ([16, 15], [16]), ([17], [17]), ([12, 15, 18], [12, 15, 18]), ([6, 7, 19], [6, 7, 19]), ([20, 17, 0, 1, 2, 3, 4, 5, 6, 7, 8, 9, 10, 11, 12, 13, 14, 15, 16, 17, 18, 19, 20], [20])])
def spec_l71Waiter.B1 : List Nat := [0, 0, 3, 0, 15, 31, 63, 0, 0, 0, 543, 1823, 3871, 0, 0, 26143, 0, 124447, 255519, 524063, 1048575, 2097151]
theorem spec_l71Waiter.tab1 : rtab .any (opsOf Try.f135 1) = spec_l71Waiter.T1 := by kernel_rfl
theorem spec_l71Waiter.bits1 : waitsOk spec_l71Waiter.T1.2 spec_l71Waiter.B1 = true := by kernel_rfl
set_option maxHeartbeats 8000000 in
set_option maxRecDepth 100000 in
theorem spec_l71Waiter.calls (k : Nat) (g : Nat) (s0_0 : List Int) (s0_1 : Int) (a1 : Int) (r1 : List (S85)) (r2 : Int) (w0 w : World) (hI : IsS116 w0 w g s0_0 s0_1) (hB : Below w0.heap.size w0 w) (h : spec_l71Waiter.f k s0_0 s0_1 a1 = some (r1, r2)) :
  Calls Try.prog 135 #[.pointer (some ⟨g, 0, none⟩), .int .i64 a1] w fun e w' => ∃ v0_ : Value, e = .returned (v0_) ∧ Kd.R k85 85 w' w.heap.size (fun _ => True) v0_ r1 ∧ IsS116 w0 w' g s0_0 r2 ∧ Below w0.heap.size w0 w' ∧ KeepBut w w' g none := by
 have hu85 := Try.underlying85
 have HI0 := am_ hI
 have HK := am_ (KeepBut.refl w g none)
 have HL := am_ hB.size
 clear hI
 have HW0 := am_ hB.size
 have HB := am_ hB
 clear hB
 have H : ((spec_l6Rd_pick.f k s0_0 s0_1 a1).bind fun bt691 => ((spec_l6Rd_pick.f k s0_0 bt691.2 2).bind fun bt693 => ((some (([1, 6] : List Int) : List Int)).bind fun y695 => ((spec_l6Rd_pick.f k s0_0 bt693.2 2).bind fun bt698 => (if 0 ≤ bt698.1 then (if bt698.1 < (y695.length : Int) then ((spec_l6Rd_pick.f k s0_0 bt698.2 a1).bind fun bt701 => ((spec_l6Rd_pick.f k s0_0 bt701.2 2).bind fun bt703 => (some ((([(⟨1, bt691.1, wrap64 (1 + bt693.1)⟩ : S85), (⟨9, 0, 0⟩ : S85), (⟨rd y695 bt698.1, bt701.1, wrap64 (1 + bt703.1)⟩ : S85)] : List (S85))), bt703.2)))) else (none)) else (none)))))) = some (r1, r2) := h
 clear h
 replace H := Option.bind_eq_some_iff.mp H
 obtain ⟨⟨t691, t692⟩, A30, H⟩ := H
 replace H : ((spec_l6Rd_pick.f k s0_0 t692 2).bind fun bt693 => ((some (([1, 6] : List Int) : List Int)).bind fun y695 => ((spec_l6Rd_pick.f k s0_0 bt693.2 2).bind fun bt698 => (if 0 ≤ bt698.1 then (if bt698.1 < (y695.length : Int) then ((spec_l6Rd_pick.f k s0_0 bt698.2 a1).bind fun bt701 => ((spec_l6Rd_pick.f k s0_0 bt701.2 2).bind fun bt703 => (some ((([(⟨1, t691, wrap64 (1 + bt693.1)⟩ : S85), (⟨9, 0, 0⟩ : S85), (⟨rd y695 bt698.1, bt701.1, wrap64 (1 + bt703.1)⟩ : S85)] : List (S85))), bt703.2)))) else (none)) else (none))))) = some (r1, r2) := H
 have A3 := am_ A30
 clear A30
 replace H := Option.bind_eq_some_iff.mp H
 obtain ⟨⟨t693, t694⟩, A40, H⟩ := H
 replace H : ((some (([1, 6] : List Int) : List Int)).bind fun y695 => ((spec_l6Rd_pick.f k s0_0 t694 2).bind fun bt698 => (if 0 ≤ bt698.1 then (if bt698.1 < (y695.length : Int) then ((spec_l6Rd_pick.f k s0_0 bt698.2 a1).bind fun bt701 => ((spec_l6Rd_pick.f k s0_0 bt701.2 2).bind fun bt703 => (some ((([(⟨1, t691, wrap64 (1 + t693)⟩ : S85), (⟨9, 0, 0⟩ : S85), (⟨rd y695 bt698.1, bt701.1, wrap64 (1 + bt703.1)⟩ : S85)] : List (S85))), bt703.2)))) else (none)) else (none)))) = some (r1, r2) := H
 have A4 := am_ A40
 clear A40
 obtain ⟨y695, hy695⟩ : ∃ y_ : List Int, y_ = (([1, 6] : List Int)) := ⟨_, rfl⟩
 replace H : ((spec_l6Rd_pick.f k s0_0 t694 2).bind fun bt698 => (if 0 ≤ bt698.1 then (if bt698.1 < (y695.length : Int) then ((spec_l6Rd_pick.f k s0_0 bt698.2 a1).bind fun bt701 => ((spec_l6Rd_pick.f k s0_0 bt701.2 2).bind fun bt703 => (some ((([(⟨1, t691, wrap64 (1 + t693)⟩ : S85), (⟨9, 0, 0⟩ : S85), (⟨rd y695 bt698.1, bt701.1, wrap64 (1 + bt703.1)⟩ : S85)] : List (S85))), bt703.2)))) else (none)) else (none))) = some (r1, r2) := by first | (rw [hy695]; with_reducible exact H) | (have H2_ := (Option.bind_some _ _).symm.trans H; rw [hy695]; with_reducible exact H2_) | (have H2_ := (Option.bind_some _ _).symm.trans H; with_reducible exact H2_) | with_reducible exact H | (rw [hy695]; exact H) | exact H
 have Ny695 := am_ hy695
 clear hy695
 replace H := Option.bind_eq_some_iff.mp H
 obtain ⟨⟨t698, t699⟩, A50, H⟩ := H
 replace H : (if 0 ≤ t698 then (if t698 < (y695.length : Int) then ((spec_l6Rd_pick.f k s0_0 t699 a1).bind fun bt701 => ((spec_l6Rd_pick.f k s0_0 bt701.2 2).bind fun bt703 => (some ((([(⟨1, t691, wrap64 (1 + t693)⟩ : S85), (⟨9, 0, 0⟩ : S85), (⟨rd y695 t698, bt701.1, wrap64 (1 + bt703.1)⟩ : S85)] : List (S85))), bt703.2)))) else (none)) else (none)) = some (r1, r2) := H
 have A5 := am_ A50
 clear A50
 by_cases c6 : 0 ≤ t698
 ·rw [if_pos c6] at H
  have c6b0 : decide (0 ≤ t698) = true := decide_eq_true c6
  clear c6
  by_cases c7 : t698 < (y695.length : Int)
  ·rw [if_pos c7] at H
   have c7b0 : decide (t698 < (y695.length : Int)) = true := decide_eq_true c7
   clear c7
   replace H := Option.bind_eq_some_iff.mp H
   obtain ⟨⟨t701, t702⟩, A80, H⟩ := H
   replace H : ((spec_l6Rd_pick.f k s0_0 t702 2).bind fun bt703 => (some ((([(⟨1, t691, wrap64 (1 + t693)⟩ : S85), (⟨9, 0, 0⟩ : S85), (⟨rd y695 t698, t701, wrap64 (1 + bt703.1)⟩ : S85)] : List (S85))), bt703.2))) = some (r1, r2) := H
   have A8 := am_ A80
   clear A80
   replace H := Option.bind_eq_some_iff.mp H
   obtain ⟨⟨t703, t704⟩, A90, H⟩ := H
   replace H : (some ((([(⟨1, t691, wrap64 (1 + t693)⟩ : S85), (⟨9, 0, 0⟩ : S85), (⟨rd y695 t698, t701, wrap64 (1 + t703)⟩ : S85)] : List (S85))), t704)) = some (r1, r2) := H
   have A9 := am_ A90
   clear A90
   obtain ⟨y705, hy705⟩ : ∃ y_ : List (S85), y_ = (([(⟨1, t691, wrap64 (1 + t693)⟩ : S85), (⟨9, 0, 0⟩ : S85), (⟨rd y695 t698, t701, wrap64 (1 + t703)⟩ : S85)] : List (S85))) := ⟨_, rfl⟩
   replace H : (some (y705, t704)) = some (r1, r2) := by first | (rw [hy705]; with_reducible exact H) | (have H2_ := (Option.bind_some _ _).symm.trans H; rw [hy705]; with_reducible exact H2_) | (have H2_ := (Option.bind_some _ _).symm.trans H; with_reducible exact H2_) | with_reducible exact H | (rw [hy705]; exact H) | exact H
   have Ny705 := am_ hy705
   clear hy705
   simp only [Option.some.injEq, Prod.mk.injEq] at H
   obtain ⟨rfl, rfl⟩ := H
   go_enter Try.func135, Try.ntmps135
   try go_wp2
   have pi700 : (0 ≤ (t698 : Int)) = True := eq_true (of_decide_eq_true (by first | (with_reducible assumption) | assumption))
   have qi700 : (t698 < (y695.length : Int)) = True := eq_true (of_decide_eq_true (by first | (with_reducible assumption) | assumption))
   have n0_ := am_ (IsS116.drew HI0.out)
   have n1_ := am_ (keep_drew HK.out)
   have n2_ := am_ (below_drew1 HB.out)
   clear HI0 HK HB
   have HI0 := n0_
   have HK := n1_
   have HB := n2_
   clear n0_ n1_ n2_
   refine start_ (n := 22) (S := fun w' => True) (ds := []) #[false, false, false, false, false, false, false, false, false, false, false, false, false, false, false, false, false, false, false, false, false, false] (by kernel_rfl) rfl rfl trivial (fun hHeld => ?_); refine with_tabW spec_l71Waiter.tab1 spec_l71Waiter.bits1 (fun HT_ HW_ => ?_)
   generalize w.drew = w10 at HI0 HK HB hHeld ⊢
   refine pure_ (i := 0) (N := some 5) (v := ?_) (a' := ?_) #[true, false, false, false, false, false, false, false, false, false, false, false, false, false, false, false, false, false, false, false, false, false] rfl rfl (any_of HT_.out (by kernel_rfl)) (fun _ _ _ h => h) (Or.inl ⟨by rfl, ?_⟩) ?_ ?_
   rotate_left
   ·intro w'
    go_simp
    with_reducible rfl
   rotate_left
   ·simp only [Act.put, List.setIfInBounds_toArray, List.set_cons_zero, List.set_cons_succ, i64_w, i32_w]
    rfl
   refine pure_ (i := 1) (N := some 6) (v := ?_) (a' := ?_) #[true, true, false, false, false, false, false, false, false, false, false, false, false, false, false, false, false, false, false, false, false, false] rfl rfl (any_of HT_.out (by kernel_rfl)) (fun _ _ _ h => h) (Or.inl ⟨by rfl, ?_⟩) ?_ ?_
   rotate_left
   ·intro w'
    go_simp
    with_reducible rfl
   rotate_left
   ·simp only [Act.put, List.setIfInBounds_toArray, List.set_cons_zero, List.set_cons_succ, i64_w, i32_w]
    rfl
   refine pure_ (i := 3) (N := some 8) (v := ?_) (a' := ?_) #[true, true, false, true, false, false, false, false, false, false, false, false, false, false, false, false, false, false, false, false, false, false] rfl rfl (any_of HT_.out (by kernel_rfl)) (fun _ _ _ h => h) (Or.inl ⟨by rfl, ?_⟩) ?_ ?_
   rotate_left
   ·intro w'
    go_simp
    with_reducible rfl
   rotate_left
   ·simp only [Act.put, List.setIfInBounds_toArray, List.set_cons_zero, List.set_cons_succ, i64_w, i32_w]
    rfl
   refine pure_ (i := 9) (N := some 14) (v := ?_) (a' := ?_) #[true, true, false, true, false, false, false, false, false, true, false, false, false, false, false, false, false, false, false, false, false, false] rfl rfl (any_of HT_.out (by kernel_rfl)) (fun _ _ _ h => h) (Or.inl ⟨by rfl, ?_⟩) ?_ ?_
   rotate_left
   ·intro w'
    go_simp
    with_reducible rfl
   rotate_left
   ·simp only [Act.put, List.setIfInBounds_toArray, List.set_cons_zero, List.set_cons_succ, i64_w, i32_w]
    rfl
   refine pure_ (i := 13) (N := some 18) (v := ?_) (a' := ?_) #[true, true, false, true, false, false, false, false, false, true, false, false, false, true, false, false, false, false, false, false, false, false] rfl rfl (any_of HT_.out (by kernel_rfl)) (fun _ _ _ h => h) (Or.inl ⟨by rfl, ?_⟩) ?_ ?_
   rotate_left
   ·intro w'
    go_simp
    with_reducible rfl
   rotate_left
   ·simp only [Act.put, List.setIfInBounds_toArray, List.set_cons_zero, List.set_cons_succ, i64_w, i32_w]
    rfl
   refine pure_ (i := 14) (N := some 19) (v := ?_) (a' := ?_) #[true, true, false, true, false, false, false, false, false, true, false, false, false, true, true, false, false, false, false, false, false, false] rfl rfl (any_of HT_.out (by kernel_rfl)) (fun _ _ _ h => h) (Or.inl ⟨by rfl, ?_⟩) ?_ ?_
   rotate_left
   ·intro w'
    go_simp
    with_reducible rfl
   rotate_left
   ·simp only [Act.put, List.setIfInBounds_toArray, List.set_cons_zero, List.set_cons_succ, i64_w, i32_w]
    rfl
   refine pure_ (i := 16) (N := some 21) (v := ?_) (a' := ?_) #[true, true, false, true, false, false, false, false, false, true, false, false, false, true, true, false, true, false, false, false, false, false] rfl rfl (any_of HT_.out (by kernel_rfl)) (fun _ _ _ h => h) (Or.inl ⟨by rfl, ?_⟩) ?_ ?_
   rotate_left
   ·intro w'
    go_simp
    with_reducible rfl
   rotate_left
   ·simp only [Act.put, List.setIfInBounds_toArray, List.set_cons_zero, List.set_cons_succ, i64_w, i32_w]
    rfl
   refine inv_at [2, 4, 5, 6, 7, 8, 10, 11, 12, 15, 17, 18, 19, 20, 21] (fun a0_ b a w' => ∃ (v696 : Value) (adz_v696 : Addr) (v706 : Value) (m11_ : Value) (m21_ : Value), a = putSel a0_ b [(2, 7, .int .i64 t691), (4, 9, .int .i64 t693), (5, 10, .int .i64 (wrap64 (1 + t693))), (6, 11, .agg #[.int .i64 1, .int .i64 t691, .int .i64 (wrap64 (1 + t693))]), (7, 12, .agg #[.int .i64 9, .int .i64 0, .int .i64 0]), (8, 13, v696), (10, 15, .int .i64 t698), (11, 16, m11_), (12, 17, .int .i64 (rd y695 t698)), (15, 20, .int .i64 t701), (17, 22, .int .i64 t703), (18, 23, .int .i64 (wrap64 (1 + t703))), (19, 24, .agg #[.int .i64 (rd y695 t698), .int .i64 t701, .int .i64 (wrap64 (1 + t703))]), (20, 25, v706), (21, 4, m21_)] ∧ (b 2 = false → IsS116 w0 w' g s0_0 s0_1) ∧ (KeepBut w w' g none) ∧ (Below w0.heap.size w0 w') ∧ (b 2 = true → b 4 = false → IsS116 w0 w' g s0_0 t692) ∧ (b 4 = true → b 10 = false → IsS116 w0 w' g s0_0 t694) ∧ (b 8 = true → Kd.R (Kd.int .i64) 3 w' w.heap.size (fun _ => True) v696 y695) ∧ (b 8 = true → ∃ c_, (v696 : Value) = .slice (some adz_v696) y695.length c_) ∧ (b 10 = true → b 15 = false → IsS116 w0 w' g s0_0 t699) ∧ (b 15 = true → b 17 = false → IsS116 w0 w' g s0_0 t702) ∧ (b 17 = true → IsS116 w0 w' g s0_0 t704) ∧ (b 20 = true → Kd.R k85 85 w' w.heap.size (fun _ => True) v706 y705) ∧ (b 11 = true → (m11_ : Value) = .pointer (some (adz_v696.add (t698).toNat))) ∧ (b 21 = true → (m21_ : Value) = v706)) HT_.out HW_.out (by kernel_rfl) (by kernel_rfl) ?_ ?_ ?_
   ·exact ⟨.bool false, ⟨0, 0, none⟩, .bool false, .bool false, .bool false, by simp only [putSel, Bool.false_eq_true, if_false], fun _ => HI0.out, HK.out, HB.out, fun h_ => absurd h_ (by decide), fun h_ => absurd h_ (by decide), fun h_ => absurd h_ (by decide), fun h_ => absurd h_ (by decide), fun h_ => absurd h_ (by decide), fun h_ => absurd h_ (by decide), fun h_ => absurd h_ (by decide), fun h_ => absurd h_ (by decide), fun h_ => absurd h_ (by decide), fun h_ => absurd h_ (by decide)⟩
   ·skip
    clear HB HI0 HK
    refine steps_cons ?_ ?_
    ·rintro b a w' ⟨v696, adz_v696, v706, m11_, m21_, ha, Q_HI0, Q_HK, Q_HB, Q_HI0_e2, Q_HI0_e4, Q_HO697, Q_HA_HO697, Q_HI0_e10, Q_HI0_e15, Q_HI0_e17, Q_HO707, Q_X11_, Q_X21_⟩ hb_ hon hoff
     refine ⟨_, rfl, fun K hK => ?_⟩
     have e5 : a.tmps[5]? = some (.pointer (some ⟨g, 0, none⟩)) := by rw [ha]; exact (putSel_off rfl).trans rfl
     have e6 : a.tmps[6]? = some (.int .i64 a1) := by rw [ha]; exact (putSel_off rfl).trans rfl
     replace ha := am_ ha
     have HI0 := am_ (Q_HI0 hb_)
     have HK := am_ Q_HK
     have HB := am_ Q_HB
     refine goes_ Try.func71 (by kernel_rfl) rfl #[.pointer (some ⟨g, 0, none⟩), .int .i64 a1] (by rfl) rfl rfl (by first | (simp only [List.map_toArray, List.map_cons, List.map_nil, Act.eval, Array.getD_eq_getD_getElem?, Option.getD_some, e5, e6]; done) | (simp only [List.map_toArray, List.map_cons, List.map_nil, Act.eval, Array.getD_eq_getD_getElem?, Option.getD_some, e5, e6]; rfl)) ?_
     with_reducible refine (spec_l6Rd_pick.calls k g s0_0 s0_1 a1 t691 t692 w0 _ ?side1 ?side2 A3.out).mono ?_
     (case side1 => repeat (first | (with_reducible first | exact HI0.out | apply IsS116.alloc | apply IsS116.drewN | apply IsS116.drew | apply IsS116.set_1) | exact HI0.out))
     (case side2 => repeat (first | (with_reducible first | exact HB.out | apply below_alloc | apply pw_below_drewN | apply below_drew1 | refine below_set ?_ (IsS116.ge HI0.out)) | exact HB.out))
     rintro e w11 ⟨rfl, hi, hb, hk⟩
     refine ⟨_, rfl, ?_⟩
     have n0_ := am_ (KeepBut.trans z135_3 hk (.inl rfl))
     have n1_ := am_ (hb)
     have n2_ := am_ (hi)
     have z_HO697 := fun (h0_ : b 8 = true) => (show Kd.R (Kd.int .i64) 3 w11 w.heap.size (fun _ => True) v696 y695 from by first | exact (Kd.R_mono (Kd.R_keep (IsS116.apart (show IsS116 w0 _ g s0_0 s0_1 from by repeat (first | (with_reducible first | exact HI0.out | apply IsS116.alloc | apply IsS116.drewN | apply IsS116.drew | apply IsS116.set_1) | exact HI0.out)) (ru (Q_HO697 h0_)) (by decide)) hk (fun _ h => h.2)) (fun _ h => h.1)) | exact Kd.R_mono (Kd.R_mono (Kd.R_keep (IsS116.apart (show IsS116 w0 _ g s0_0 s0_1 from by repeat (first | (with_reducible first | exact HI0.out | apply IsS116.alloc | apply IsS116.drewN | apply IsS116.drew | apply IsS116.set_1) | exact HI0.out)) (ru (Q_HO697 h0_)) (by decide)) hk (fun _ h => h.2)) (fun _ h => h.1)) (fun _ h_ => z135_1))
     clear HK HB HI0
     have HK := n0_
     have HB := n1_
     have HI0 := n2_
     clear n0_ n1_ n2_
     (try clear hb)
     (try clear hb2)
     (try clear hk)
     (try clear hi)
     refine hK.out _ _ ⟨v696, adz_v696, v706, m11_, m21_, (by rw [ha.out]; exact putSel_upk 0 hb_ rfl rfl rfl), fun h0_ => absurd ((up_self b 2).symm.trans h0_) (by decide), z135_3, z135_5, fun _ _ => z135_4, fun h0_ _ => absurd ((hoff 4 (by kernel_rfl)).symm.trans h0_) (by decide), z_HO697, Q_HA_HO697, fun h0_ _ => absurd ((hoff 10 (by kernel_rfl)).symm.trans h0_) (by decide), fun h0_ _ => absurd ((hoff 15 (by kernel_rfl)).symm.trans h0_) (by decide), fun h0_ => absurd ((hoff 17 (by kernel_rfl)).symm.trans h0_) (by decide), fun h0_ => absurd ((hoff 20 (by kernel_rfl)).symm.trans h0_) (by decide), fun h0_ => absurd ((hoff 11 (by kernel_rfl)).symm.trans h0_) (by decide), fun h0_ => absurd ((hoff 21 (by kernel_rfl)).symm.trans h0_) (by decide)⟩
    refine steps_cons ?_ ?_
    ·rintro b a w' ⟨v696, adz_v696, v706, m11_, m21_, ha, Q_HI0, Q_HK, Q_HB, Q_HI0_e2, Q_HI0_e4, Q_HO697, Q_HA_HO697, Q_HI0_e10, Q_HI0_e15, Q_HI0_e17, Q_HO707, Q_X11_, Q_X21_⟩ hb_ hon hoff
     refine ⟨_, rfl, fun K hK => ?_⟩
     have e8 : a.tmps[8]? = some (.pointer (some ⟨g, 0, none⟩)) := by rw [ha]; exact (putSel_off rfl).trans rfl
     replace ha := am_ ha
     have HK := am_ Q_HK
     have HB := am_ Q_HB
     have HI0 := am_ (Q_HI0_e2 (hon 2 (by kernel_rfl)) hb_)
     refine goes_ Try.func71 (by kernel_rfl) rfl #[.pointer (some ⟨g, 0, none⟩), .int .i64 2] (by rfl) rfl rfl (by first | (simp only [List.map_toArray, List.map_cons, List.map_nil, Act.eval, Array.getD_eq_getD_getElem?, Option.getD_some, e8]; done) | (simp only [List.map_toArray, List.map_cons, List.map_nil, Act.eval, Array.getD_eq_getD_getElem?, Option.getD_some, e8]; rfl)) ?_
     with_reducible refine (spec_l6Rd_pick.calls k g s0_0 t692 2 t693 t694 w0 _ ?side1 ?side2 A4.out).mono ?_
     (case side1 => repeat (first | (with_reducible first | exact HI0.out | apply IsS116.alloc | apply IsS116.drewN | apply IsS116.drew | apply IsS116.set_1) | exact HI0.out))
     (case side2 => repeat (first | (with_reducible first | exact HB.out | apply below_alloc | apply pw_below_drewN | apply below_drew1 | refine below_set ?_ (IsS116.ge HI0.out)) | exact HB.out))
     rintro e w13 ⟨rfl, hi, hb, hk⟩
     refine ⟨_, rfl, ?_⟩
     have n0_ := am_ (KeepBut.trans z135_3 hk (.inl rfl))
     have n1_ := am_ (hb)
     have n2_ := am_ (hi)
     have z_HO697 := fun (h0_ : b 8 = true) => (show Kd.R (Kd.int .i64) 3 w13 w.heap.size (fun _ => True) v696 y695 from by first | exact (Kd.R_mono (Kd.R_keep (IsS116.apart (show IsS116 w0 _ g s0_0 t692 from by repeat (first | (with_reducible first | exact HI0.out | apply IsS116.alloc | apply IsS116.drewN | apply IsS116.drew | apply IsS116.set_1) | exact HI0.out)) (ru (Q_HO697 h0_)) (by decide)) hk (fun _ h => h.2)) (fun _ h => h.1)) | exact Kd.R_mono (Kd.R_mono (Kd.R_keep (IsS116.apart (show IsS116 w0 _ g s0_0 t692 from by repeat (first | (with_reducible first | exact HI0.out | apply IsS116.alloc | apply IsS116.drewN | apply IsS116.drew | apply IsS116.set_1) | exact HI0.out)) (ru (Q_HO697 h0_)) (by decide)) hk (fun _ h => h.2)) (fun _ h => h.1)) (fun _ h_ => z135_1))
     clear HK HB HI0
     have HK := n0_
     have HB := n1_
     have HI0 := n2_
     clear n0_ n1_ n2_
     (try clear hb)
     (try clear hb2)
     (try clear hk)
     (try clear hi)
     refine hK.out _ _ ⟨v696, adz_v696, v706, m11_, m21_, (by rw [ha.out]; exact putSel_upk 1 hb_ rfl rfl rfl), fun h0_ => absurd ((hon 2 (by kernel_rfl)).symm.trans h0_) (by decide), z135_3, z135_5, fun _ h1_ => absurd ((up_self b 4).symm.trans h1_) (by decide), fun _ _ => z135_4, z_HO697, Q_HA_HO697, fun h0_ _ => absurd ((hoff 10 (by kernel_rfl)).symm.trans h0_) (by decide), fun h0_ _ => absurd ((hoff 15 (by kernel_rfl)).symm.trans h0_) (by decide), fun h0_ => absurd ((hoff 17 (by kernel_rfl)).symm.trans h0_) (by decide), fun h0_ => absurd ((hoff 20 (by kernel_rfl)).symm.trans h0_) (by decide), fun h0_ => absurd ((hoff 11 (by kernel_rfl)).symm.trans h0_) (by decide), fun h0_ => absurd ((hoff 21 (by kernel_rfl)).symm.trans h0_) (by decide)⟩
    refine steps_cons ?_ ?_
    ·rintro b a w' ⟨v696, adz_v696, v706, m11_, m21_, ha, Q_HI0, Q_HK, Q_HB, Q_HI0_e2, Q_HI0_e4, Q_HO697, Q_HA_HO697, Q_HI0_e10, Q_HI0_e15, Q_HI0_e17, Q_HO707, Q_X11_, Q_X21_⟩ hb_ hon hoff
     refine ⟨_, rfl, fun K hK => ?_⟩
     have e9 : a.tmps[9]? = some (.int .i64 t693) := by rw [ha]; exact putSel_on (e := (4, 9, .int .i64 t693)) 1 rfl rfl (hon 4 (by kernel_rfl)) rfl
     replace ha := am_ ha
     have HK := am_ Q_HK
     have HB := am_ Q_HB
     refine value_ (w1 := w') (v := .int .i64 (wrap64 (1 + t693))) (by rfl) rfl ?_ ?_
     ·go_simp
      (try simp only [i64_w])
      try rfl
     refine hK.out _ _ ⟨v696, adz_v696, v706, m11_, m21_, (by rw [ha.out]; exact putSel_upk 2 hb_ rfl rfl rfl), fun h0_ => absurd ((hon 2 (by kernel_rfl)).symm.trans h0_) (by decide), Q_HK, Q_HB, fun _ h1_ => absurd ((hon 4 (by kernel_rfl)).symm.trans h1_) (by decide), Q_HI0_e4, Q_HO697, Q_HA_HO697, Q_HI0_e10, Q_HI0_e15, Q_HI0_e17, fun h0_ => absurd ((hoff 20 (by kernel_rfl)).symm.trans h0_) (by decide), Q_X11_, fun h0_ => absurd ((hoff 21 (by kernel_rfl)).symm.trans h0_) (by decide)⟩
    refine steps_cons ?_ ?_
    ·rintro b a w' ⟨v696, adz_v696, v706, m11_, m21_, ha, Q_HI0, Q_HK, Q_HB, Q_HI0_e2, Q_HI0_e4, Q_HO697, Q_HA_HO697, Q_HI0_e10, Q_HI0_e15, Q_HI0_e17, Q_HO707, Q_X11_, Q_X21_⟩ hb_ hon hoff
     refine ⟨_, rfl, fun K hK => ?_⟩
     have e7 : a.tmps[7]? = some (.int .i64 t691) := by rw [ha]; exact putSel_on (e := (2, 7, .int .i64 t691)) 0 rfl rfl (hon 2 (by kernel_rfl)) rfl
     have e10 : a.tmps[10]? = some (.int .i64 (wrap64 (1 + t693))) := by rw [ha]; exact putSel_on (e := (5, 10, .int .i64 (wrap64 (1 + t693)))) 2 rfl rfl (hon 5 (by kernel_rfl)) rfl
     replace ha := am_ ha
     have HK := am_ Q_HK
     have HB := am_ Q_HB
     refine value_ (w1 := w') (v := .agg #[.int .i64 1, .int .i64 t691, .int .i64 (wrap64 (1 + t693))]) (by rfl) rfl ?_ ?_
     ·go_simp
      (try simp only [i64_w])
      try rfl
     refine hK.out _ _ ⟨v696, adz_v696, v706, m11_, m21_, (by rw [ha.out]; exact putSel_upk 3 hb_ rfl rfl rfl), fun h0_ => absurd ((hon 2 (by kernel_rfl)).symm.trans h0_) (by decide), Q_HK, Q_HB, fun _ h1_ => absurd ((hon 4 (by kernel_rfl)).symm.trans h1_) (by decide), Q_HI0_e4, Q_HO697, Q_HA_HO697, Q_HI0_e10, Q_HI0_e15, Q_HI0_e17, fun h0_ => absurd ((hoff 20 (by kernel_rfl)).symm.trans h0_) (by decide), Q_X11_, fun h0_ => absurd ((hoff 21 (by kernel_rfl)).symm.trans h0_) (by decide)⟩
    refine steps_cons ?_ ?_
    ·rintro b a w' ⟨v696, adz_v696, v706, m11_, m21_, ha, Q_HI0, Q_HK, Q_HB, Q_HI0_e2, Q_HI0_e4, Q_HO697, Q_HA_HO697, Q_HI0_e10, Q_HI0_e15, Q_HI0_e17, Q_HO707, Q_X11_, Q_X21_⟩ hb_ hon hoff
     refine ⟨_, rfl, fun K hK => ?_⟩
     replace ha := am_ ha
     have HK := am_ Q_HK
     have HB := am_ Q_HB
     refine value_ (w1 := w') (v := .agg #[.int .i64 9, .int .i64 0, .int .i64 0]) (by rfl) rfl ?_ ?_
     ·go_simp
      (try simp only [i64_w])
      try rfl
     refine hK.out _ _ ⟨v696, adz_v696, v706, m11_, m21_, (by rw [ha.out]; exact putSel_upk 4 hb_ rfl rfl rfl), Q_HI0, Q_HK, Q_HB, Q_HI0_e2, Q_HI0_e4, Q_HO697, Q_HA_HO697, Q_HI0_e10, Q_HI0_e15, Q_HI0_e17, fun h0_ => absurd ((hoff 20 (by kernel_rfl)).symm.trans h0_) (by decide), Q_X11_, fun h0_ => absurd ((hoff 21 (by kernel_rfl)).symm.trans h0_) (by decide)⟩
    refine steps_cons ?_ ?_
    ·rintro b a w' ⟨v696, adz_v696, v706, m11_, m21_, ha, Q_HI0, Q_HK, Q_HB, Q_HI0_e2, Q_HI0_e4, Q_HO697, Q_HA_HO697, Q_HI0_e10, Q_HI0_e15, Q_HI0_e17, Q_HO707, Q_X11_, Q_X21_⟩ hb_ hon hoff
     refine ⟨_, rfl, fun K hK => ?_⟩
     replace ha := am_ ha
     have HK := am_ Q_HK
     have HB := am_ Q_HB
     refine Kd.R_lit_step (Kd.int .i64) _ 3 ?hg (N := 13) ?hd (xs := ([1, 6] : List Int)) (inner := [.int .i64 1, .int .i64 6]) (ok := fun _ => True) (okp := fun _ => True) ?hr ?hp (fun _ hk => hk) trivial (Below.refl _ _) (Nat.le_refl _) (by simp) ?_; (case hd => rfl); (case hg => rfl); (case hr => first | (go_simp; done) | (go_simp; rfl)); (case hp => exact (Reps.one (show Kd.M (Kd.int .i64) _ _ _ 1 [.int .i64 1] from rfl) (Reps.one (show Kd.M (Kd.int .i64) _ _ _ 6 [.int .i64 6] from rfl) (Reps.none _ _))))
     intro v696 w11 ho12 hb hg_ hnew_
     clear hg_ hnew_
     (first | rw [← Ny695.out] at ho12 | (simp only [Int.reduceToNat] at ho12; rw [← Ny695.out] at ho12))
     have n0_ := am_ (Kd.R_lower ho12 (keep_size (w := w) (g := g) (row := none) z135_3))
     have n2_ := am_ (KeepBut.trans z135_3 (KeepBut.of_below hb g none) (.inl rfl))
     have n3_ := am_ (below_step z135_2 hb)
     have z_HI0 := fun (h0_ : b 2 = false) => (show IsS116 w0 w11 g s0_0 s0_1 from by first | exact (IsS116.below (by repeat (first | (with_reducible first | exact (Q_HI0 h0_) | apply IsS116.alloc | apply IsS116.drewN | apply IsS116.drew | apply IsS116.set_1) | exact (Q_HI0 h0_))) hb))
     have z_HI0_e2 := fun (h0_ : b 2 = true) (h1_ : b 4 = false) => (show IsS116 w0 w11 g s0_0 t692 from by first | exact (IsS116.below (by repeat (first | (with_reducible first | exact (Q_HI0_e2 h0_ h1_) | apply IsS116.alloc | apply IsS116.drewN | apply IsS116.drew | apply IsS116.set_1) | exact (Q_HI0_e2 h0_ h1_))) hb))
     have z_HI0_e4 := fun (h0_ : b 4 = true) (h1_ : b 10 = false) => (show IsS116 w0 w11 g s0_0 t694 from by first | exact (IsS116.below (by repeat (first | (with_reducible first | exact (Q_HI0_e4 h0_ h1_) | apply IsS116.alloc | apply IsS116.drewN | apply IsS116.drew | apply IsS116.set_1) | exact (Q_HI0_e4 h0_ h1_))) hb))
     have z_HI0_e10 := fun (h0_ : b 10 = true) (h1_ : b 15 = false) => (show IsS116 w0 w11 g s0_0 t699 from by first | exact (IsS116.below (by repeat (first | (with_reducible first | exact (Q_HI0_e10 h0_ h1_) | apply IsS116.alloc | apply IsS116.drewN | apply IsS116.drew | apply IsS116.set_1) | exact (Q_HI0_e10 h0_ h1_))) hb))
     have z_HI0_e15 := fun (h0_ : b 15 = true) (h1_ : b 17 = false) => (show IsS116 w0 w11 g s0_0 t702 from by first | exact (IsS116.below (by repeat (first | (with_reducible first | exact (Q_HI0_e15 h0_ h1_) | apply IsS116.alloc | apply IsS116.drewN | apply IsS116.drew | apply IsS116.set_1) | exact (Q_HI0_e15 h0_ h1_))) hb))
     have z_HI0_e17 := fun (h0_ : b 17 = true) => (show IsS116 w0 w11 g s0_0 t704 from by first | exact (IsS116.below (by repeat (first | (with_reducible first | exact (Q_HI0_e17 h0_) | apply IsS116.alloc | apply IsS116.drewN | apply IsS116.drew | apply IsS116.set_1) | exact (Q_HI0_e17 h0_))) hb))
     clear HK HB
     have HO697 := n0_
     have HK := n2_
     have HB := n3_
     clear n0_ n2_ n3_ hb ho12
     obtain ⟨Ao13, co13, eo13⟩ := Kd.R_slice HO697.out
     subst eo13
     obtain ⟨ado13, fo13, _⟩ := Kd.at_int (Kd.R_reads' HO697.out).2.2 0 (by decide) (by rw [Ny695.out]; simp)
     cases fo13
     refine hK.out _ _ ⟨.slice (some ado13) y695.length co13, ado13, v706, m11_, m21_, (by rw [ha.out]; exact putSel_upk 5 hb_ rfl rfl rfl), z_HI0, z135_3, z135_2, z_HI0_e2, z_HI0_e4, fun _ => (ru HO697.out), fun _ => ⟨_, rfl⟩, z_HI0_e10, z_HI0_e15, z_HI0_e17, fun h0_ => absurd ((hoff 20 (by kernel_rfl)).symm.trans h0_) (by decide), fun h0_ => absurd ((hoff 11 (by kernel_rfl)).symm.trans h0_) (by decide), fun h0_ => absurd ((hoff 21 (by kernel_rfl)).symm.trans h0_) (by decide)⟩
    refine steps_cons ?_ ?_
    ·rintro b a w' ⟨v696, adz_v696, v706, m11_, m21_, ha, Q_HI0, Q_HK, Q_HB, Q_HI0_e2, Q_HI0_e4, Q_HO697, Q_HA_HO697, Q_HI0_e10, Q_HI0_e15, Q_HI0_e17, Q_HO707, Q_X11_, Q_X21_⟩ hb_ hon hoff
     refine ⟨_, rfl, fun K hK => ?_⟩
     have e14 : a.tmps[14]? = some (.pointer (some ⟨g, 0, none⟩)) := by rw [ha]; exact (putSel_off rfl).trans rfl
     replace ha := am_ ha
     have HK := am_ Q_HK
     have HB := am_ Q_HB
     have HI0 := am_ (Q_HI0_e4 (hon 4 (by kernel_rfl)) hb_)
     refine goes_ Try.func71 (by kernel_rfl) rfl #[.pointer (some ⟨g, 0, none⟩), .int .i64 2] (by rfl) rfl rfl (by first | (simp only [List.map_toArray, List.map_cons, List.map_nil, Act.eval, Array.getD_eq_getD_getElem?, Option.getD_some, e14]; done) | (simp only [List.map_toArray, List.map_cons, List.map_nil, Act.eval, Array.getD_eq_getD_getElem?, Option.getD_some, e14]; rfl)) ?_
     with_reducible refine (spec_l6Rd_pick.calls k g s0_0 t694 2 t698 t699 w0 _ ?side1 ?side2 A5.out).mono ?_
     (case side1 => repeat (first | (with_reducible first | exact HI0.out | apply IsS116.alloc | apply IsS116.drewN | apply IsS116.drew | apply IsS116.set_1) | exact HI0.out))
     (case side2 => repeat (first | (with_reducible first | exact HB.out | apply below_alloc | apply pw_below_drewN | apply below_drew1 | refine below_set ?_ (IsS116.ge HI0.out)) | exact HB.out))
     rintro e w14 ⟨rfl, hi, hb, hk⟩
     refine ⟨_, rfl, ?_⟩
     have n0_ := am_ (KeepBut.trans z135_3 hk (.inl rfl))
     have n1_ := am_ (hb)
     have n2_ := am_ (hi)
     have z_HO697 := fun (h0_ : b 8 = true) => (show Kd.R (Kd.int .i64) 3 w14 w.heap.size (fun _ => True) v696 y695 from by first | exact (Kd.R_mono (Kd.R_keep (IsS116.apart (show IsS116 w0 _ g s0_0 t694 from by repeat (first | (with_reducible first | exact HI0.out | apply IsS116.alloc | apply IsS116.drewN | apply IsS116.drew | apply IsS116.set_1) | exact HI0.out)) (ru (Q_HO697 h0_)) (by decide)) hk (fun _ h => h.2)) (fun _ h => h.1)) | exact Kd.R_mono (Kd.R_mono (Kd.R_keep (IsS116.apart (show IsS116 w0 _ g s0_0 t694 from by repeat (first | (with_reducible first | exact HI0.out | apply IsS116.alloc | apply IsS116.drewN | apply IsS116.drew | apply IsS116.set_1) | exact HI0.out)) (ru (Q_HO697 h0_)) (by decide)) hk (fun _ h => h.2)) (fun _ h => h.1)) (fun _ h_ => z135_1))
     clear HK HB HI0
     have HK := n0_
     have HB := n1_
     have HI0 := n2_
     clear n0_ n1_ n2_
     (try clear hb)
     (try clear hb2)
     (try clear hk)
     (try clear hi)
     refine hK.out _ _ ⟨v696, adz_v696, v706, m11_, m21_, (by rw [ha.out]; exact putSel_upk 6 hb_ rfl rfl rfl), fun h0_ => absurd ((hon 2 (by kernel_rfl)).symm.trans h0_) (by decide), z135_3, z135_5, fun _ h1_ => absurd ((hon 4 (by kernel_rfl)).symm.trans h1_) (by decide), fun _ h1_ => absurd ((up_self b 10).symm.trans h1_) (by decide), z_HO697, Q_HA_HO697, fun _ _ => z135_4, fun h0_ _ => absurd ((hoff 15 (by kernel_rfl)).symm.trans h0_) (by decide), fun h0_ => absurd ((hoff 17 (by kernel_rfl)).symm.trans h0_) (by decide), fun h0_ => absurd ((hoff 20 (by kernel_rfl)).symm.trans h0_) (by decide), fun h0_ => absurd ((hoff 11 (by kernel_rfl)).symm.trans h0_) (by decide), fun h0_ => absurd ((hoff 21 (by kernel_rfl)).symm.trans h0_) (by decide)⟩
    refine steps_cons ?_ ?_
    ·rintro b a w' ⟨v696, adz_v696, v706, m11_, m21_, ha, Q_HI0, Q_HK, Q_HB, Q_HI0_e2, Q_HI0_e4, Q_HO697, Q_HA_HO697, Q_HI0_e10, Q_HI0_e15, Q_HI0_e17, Q_HO707, Q_X11_, Q_X21_⟩ hb_ hon hoff
     refine ⟨_, rfl, fun K hK => ?_⟩
     have e13 : a.tmps[13]? = some (v696) := by rw [ha]; exact putSel_on (e := (8, 13, v696)) 5 rfl rfl (hon 8 (by kernel_rfl)) rfl
     have e15 : a.tmps[15]? = some (.int .i64 t698) := by rw [ha]; exact putSel_on (e := (10, 15, .int .i64 t698)) 6 rfl rfl (hon 10 (by kernel_rfl)) rfl
     replace ha := am_ ha
     have HK := am_ Q_HK
     have HB := am_ Q_HB
     have HO697 := am_ (Q_HO697 (hon 8 (by kernel_rfl)))
     have HA_HO697 := am_ (Q_HA_HO697 (hon 8 (by kernel_rfl)))
     obtain ⟨c_, hv_⟩ := HA_HO697.out
     rw [hv_] at e13
     refine value_ (w1 := w') (v := .pointer (some (adz_v696.add (t698).toNat))) (by rfl) rfl ?_ ?_
     ·go_simp
      (try simp only [i64_w])
      try rfl
     refine hK.out _ _ ⟨v696, adz_v696, v706, (.pointer (some (adz_v696.add (t698).toNat))), m21_, (by rw [ha.out]; exact putSel_upk 7 hb_ rfl rfl rfl), fun h0_ => absurd ((hon 2 (by kernel_rfl)).symm.trans h0_) (by decide), Q_HK, Q_HB, fun _ h1_ => absurd ((hon 4 (by kernel_rfl)).symm.trans h1_) (by decide), fun _ h1_ => absurd ((hon 10 (by kernel_rfl)).symm.trans h1_) (by decide), Q_HO697, Q_HA_HO697, Q_HI0_e10, Q_HI0_e15, Q_HI0_e17, fun h0_ => absurd ((hoff 20 (by kernel_rfl)).symm.trans h0_) (by decide), fun _ => rfl, fun h0_ => absurd ((hoff 21 (by kernel_rfl)).symm.trans h0_) (by decide)⟩
    refine steps_cons ?_ ?_
    ·rintro b a w' ⟨v696, adz_v696, v706, m11_, m21_, ha, Q_HI0, Q_HK, Q_HB, Q_HI0_e2, Q_HI0_e4, Q_HO697, Q_HA_HO697, Q_HI0_e10, Q_HI0_e15, Q_HI0_e17, Q_HO707, Q_X11_, Q_X21_⟩ hb_ hon hoff
     refine ⟨_, rfl, fun K hK => ?_⟩
     have e16 : a.tmps[16]? = some (m11_) := by rw [ha]; exact putSel_on (e := (11, 16, m11_)) 7 rfl rfl (hon 11 (by kernel_rfl)) rfl
     rw [Q_X11_ (hon 11 (by kernel_rfl))] at e16
     replace ha := am_ ha
     have HK := am_ Q_HK
     have HB := am_ Q_HB
     have HO697 := am_ (Q_HO697 (hon 8 (by kernel_rfl)))
     have HA_HO697 := am_ (Q_HA_HO697 (hon 8 (by kernel_rfl)))
     obtain ⟨c_, hv_⟩ := HA_HO697.out
     have hF_ := HO697.out
     rw [hv_] at hF_
     obtain ⟨ad_, ea_, hx_⟩ := Kd.at_int (Kd.R_reads' hF_).2.2 t698 (of_eq_true pi700) (of_eq_true qi700)
     cases ea_
     refine value_ (w1 := w') (v := .int .i64 (rd y695 t698)) (by rfl) rfl ?_ ?_
     ·go_simp
      (try simp only [i64_w])
      try rfl
     refine hK.out _ _ ⟨v696, adz_v696, v706, m11_, m21_, (by rw [ha.out]; exact putSel_upk 8 hb_ rfl rfl rfl), fun h0_ => absurd ((hon 2 (by kernel_rfl)).symm.trans h0_) (by decide), Q_HK, Q_HB, fun _ h1_ => absurd ((hon 4 (by kernel_rfl)).symm.trans h1_) (by decide), fun _ h1_ => absurd ((hon 10 (by kernel_rfl)).symm.trans h1_) (by decide), Q_HO697, Q_HA_HO697, Q_HI0_e10, Q_HI0_e15, Q_HI0_e17, fun h0_ => absurd ((hoff 20 (by kernel_rfl)).symm.trans h0_) (by decide), Q_X11_, fun h0_ => absurd ((hoff 21 (by kernel_rfl)).symm.trans h0_) (by decide)⟩
    refine steps_cons ?_ ?_
    ·rintro b a w' ⟨v696, adz_v696, v706, m11_, m21_, ha, Q_HI0, Q_HK, Q_HB, Q_HI0_e2, Q_HI0_e4, Q_HO697, Q_HA_HO697, Q_HI0_e10, Q_HI0_e15, Q_HI0_e17, Q_HO707, Q_X11_, Q_X21_⟩ hb_ hon hoff
     refine ⟨_, rfl, fun K hK => ?_⟩
     have e18 : a.tmps[18]? = some (.pointer (some ⟨g, 0, none⟩)) := by rw [ha]; exact (putSel_off rfl).trans rfl
     have e19 : a.tmps[19]? = some (.int .i64 a1) := by rw [ha]; exact (putSel_off rfl).trans rfl
     replace ha := am_ ha
     have HK := am_ Q_HK
     have HB := am_ Q_HB
     have HI0 := am_ (Q_HI0_e10 (hon 10 (by kernel_rfl)) hb_)
     refine goes_ Try.func71 (by kernel_rfl) rfl #[.pointer (some ⟨g, 0, none⟩), .int .i64 a1] (by rfl) rfl rfl (by first | (simp only [List.map_toArray, List.map_cons, List.map_nil, Act.eval, Array.getD_eq_getD_getElem?, Option.getD_some, e18, e19]; done) | (simp only [List.map_toArray, List.map_cons, List.map_nil, Act.eval, Array.getD_eq_getD_getElem?, Option.getD_some, e18, e19]; rfl)) ?_
     with_reducible refine (spec_l6Rd_pick.calls k g s0_0 t699 a1 t701 t702 w0 _ ?side1 ?side2 A8.out).mono ?_
     (case side1 => repeat (first | (with_reducible first | exact HI0.out | apply IsS116.alloc | apply IsS116.drewN | apply IsS116.drew | apply IsS116.set_1) | exact HI0.out))
     (case side2 => repeat (first | (with_reducible first | exact HB.out | apply below_alloc | apply pw_below_drewN | apply below_drew1 | refine below_set ?_ (IsS116.ge HI0.out)) | exact HB.out))
     rintro e w15 ⟨rfl, hi, hb, hk⟩
     refine ⟨_, rfl, ?_⟩
     have n0_ := am_ (KeepBut.trans z135_3 hk (.inl rfl))
     have n1_ := am_ (hb)
     have n2_ := am_ (hi)
     have z_HO697 := fun (h0_ : b 8 = true) => (show Kd.R (Kd.int .i64) 3 w15 w.heap.size (fun _ => True) v696 y695 from by first | exact (Kd.R_mono (Kd.R_keep (IsS116.apart (show IsS116 w0 _ g s0_0 t699 from by repeat (first | (with_reducible first | exact HI0.out | apply IsS116.alloc | apply IsS116.drewN | apply IsS116.drew | apply IsS116.set_1) | exact HI0.out)) (ru (Q_HO697 h0_)) (by decide)) hk (fun _ h => h.2)) (fun _ h => h.1)) | exact Kd.R_mono (Kd.R_mono (Kd.R_keep (IsS116.apart (show IsS116 w0 _ g s0_0 t699 from by repeat (first | (with_reducible first | exact HI0.out | apply IsS116.alloc | apply IsS116.drewN | apply IsS116.drew | apply IsS116.set_1) | exact HI0.out)) (ru (Q_HO697 h0_)) (by decide)) hk (fun _ h => h.2)) (fun _ h => h.1)) (fun _ h_ => z135_1))
     clear HK HB HI0
     have HK := n0_
     have HB := n1_
     have HI0 := n2_
     clear n0_ n1_ n2_
     (try clear hb)
     (try clear hb2)
     (try clear hk)
     (try clear hi)
     refine hK.out _ _ ⟨v696, adz_v696, v706, m11_, m21_, (by rw [ha.out]; exact putSel_upk 9 hb_ rfl rfl rfl), fun h0_ => absurd ((hon 2 (by kernel_rfl)).symm.trans h0_) (by decide), z135_3, z135_5, fun _ h1_ => absurd ((hon 4 (by kernel_rfl)).symm.trans h1_) (by decide), fun _ h1_ => absurd ((hon 10 (by kernel_rfl)).symm.trans h1_) (by decide), z_HO697, Q_HA_HO697, fun _ h1_ => absurd ((up_self b 15).symm.trans h1_) (by decide), fun _ _ => z135_4, fun h0_ => absurd ((hoff 17 (by kernel_rfl)).symm.trans h0_) (by decide), fun h0_ => absurd ((hoff 20 (by kernel_rfl)).symm.trans h0_) (by decide), Q_X11_, fun h0_ => absurd ((hoff 21 (by kernel_rfl)).symm.trans h0_) (by decide)⟩
    refine steps_cons ?_ ?_
    ·rintro b a w' ⟨v696, adz_v696, v706, m11_, m21_, ha, Q_HI0, Q_HK, Q_HB, Q_HI0_e2, Q_HI0_e4, Q_HO697, Q_HA_HO697, Q_HI0_e10, Q_HI0_e15, Q_HI0_e17, Q_HO707, Q_X11_, Q_X21_⟩ hb_ hon hoff
     refine ⟨_, rfl, fun K hK => ?_⟩
     have e21 : a.tmps[21]? = some (.pointer (some ⟨g, 0, none⟩)) := by rw [ha]; exact (putSel_off rfl).trans rfl
     replace ha := am_ ha
     have HK := am_ Q_HK
     have HB := am_ Q_HB
     have HI0 := am_ (Q_HI0_e15 (hon 15 (by kernel_rfl)) hb_)
     refine goes_ Try.func71 (by kernel_rfl) rfl #[.pointer (some ⟨g, 0, none⟩), .int .i64 2] (by rfl) rfl rfl (by first | (simp only [List.map_toArray, List.map_cons, List.map_nil, Act.eval, Array.getD_eq_getD_getElem?, Option.getD_some, e21]; done) | (simp only [List.map_toArray, List.map_cons, List.map_nil, Act.eval, Array.getD_eq_getD_getElem?, Option.getD_some, e21]; rfl)) ?_
     with_reducible refine (spec_l6Rd_pick.calls k g s0_0 t702 2 t703 t704 w0 _ ?side1 ?side2 A9.out).mono ?_
     (case side1 => repeat (first | (with_reducible first | exact HI0.out | apply IsS116.alloc | apply IsS116.drewN | apply IsS116.drew | apply IsS116.set_1) | exact HI0.out))
     (case side2 => repeat (first | (with_reducible first | exact HB.out | apply below_alloc | apply pw_below_drewN | apply below_drew1 | refine below_set ?_ (IsS116.ge HI0.out)) | exact HB.out))
     rintro e w16 ⟨rfl, hi, hb, hk⟩
     refine ⟨_, rfl, ?_⟩
     have n0_ := am_ (KeepBut.trans z135_3 hk (.inl rfl))
     have n1_ := am_ (hb)
     have n2_ := am_ (hi)
     have z_HO697 := fun (h0_ : b 8 = true) => (show Kd.R (Kd.int .i64) 3 w16 w.heap.size (fun _ => True) v696 y695 from by first | exact (Kd.R_mono (Kd.R_keep (IsS116.apart (show IsS116 w0 _ g s0_0 t702 from by repeat (first | (with_reducible first | exact HI0.out | apply IsS116.alloc | apply IsS116.drewN | apply IsS116.drew | apply IsS116.set_1) | exact HI0.out)) (ru (Q_HO697 h0_)) (by decide)) hk (fun _ h => h.2)) (fun _ h => h.1)) | exact Kd.R_mono (Kd.R_mono (Kd.R_keep (IsS116.apart (show IsS116 w0 _ g s0_0 t702 from by repeat (first | (with_reducible first | exact HI0.out | apply IsS116.alloc | apply IsS116.drewN | apply IsS116.drew | apply IsS116.set_1) | exact HI0.out)) (ru (Q_HO697 h0_)) (by decide)) hk (fun _ h => h.2)) (fun _ h => h.1)) (fun _ h_ => z135_1))
     clear HK HB HI0
     have HK := n0_
     have HB := n1_
     have HI0 := n2_
     clear n0_ n1_ n2_
     (try clear hb)
     (try clear hb2)
     (try clear hk)
     (try clear hi)
     refine hK.out _ _ ⟨v696, adz_v696, v706, m11_, m21_, (by rw [ha.out]; exact putSel_upk 10 hb_ rfl rfl rfl), fun h0_ => absurd ((hon 2 (by kernel_rfl)).symm.trans h0_) (by decide), z135_3, z135_5, fun _ h1_ => absurd ((hon 4 (by kernel_rfl)).symm.trans h1_) (by decide), fun _ h1_ => absurd ((hon 10 (by kernel_rfl)).symm.trans h1_) (by decide), z_HO697, Q_HA_HO697, fun _ h1_ => absurd ((hon 15 (by kernel_rfl)).symm.trans h1_) (by decide), fun _ h1_ => absurd ((up_self b 17).symm.trans h1_) (by decide), fun _ => z135_4, fun h0_ => absurd ((hoff 20 (by kernel_rfl)).symm.trans h0_) (by decide), Q_X11_, fun h0_ => absurd ((hoff 21 (by kernel_rfl)).symm.trans h0_) (by decide)⟩
    refine steps_cons ?_ ?_
    ·rintro b a w' ⟨v696, adz_v696, v706, m11_, m21_, ha, Q_HI0, Q_HK, Q_HB, Q_HI0_e2, Q_HI0_e4, Q_HO697, Q_HA_HO697, Q_HI0_e10, Q_HI0_e15, Q_HI0_e17, Q_HO707, Q_X11_, Q_X21_⟩ hb_ hon hoff
     refine ⟨_, rfl, fun K hK => ?_⟩
     have e22 : a.tmps[22]? = some (.int .i64 t703) := by rw [ha]; exact putSel_on (e := (17, 22, .int .i64 t703)) 10 rfl rfl (hon 17 (by kernel_rfl)) rfl
     replace ha := am_ ha
     have HK := am_ Q_HK
     have HB := am_ Q_HB
     have HI0 := am_ (Q_HI0_e17 (hon 17 (by kernel_rfl)))
     refine value_ (w1 := w') (v := .int .i64 (wrap64 (1 + t703))) (by rfl) rfl ?_ ?_
     ·go_simp
      (try simp only [i64_w])
      try rfl
     refine hK.out _ _ ⟨v696, adz_v696, v706, m11_, m21_, (by rw [ha.out]; exact putSel_upk 11 hb_ rfl rfl rfl), fun h0_ => absurd ((hon 2 (by kernel_rfl)).symm.trans h0_) (by decide), Q_HK, Q_HB, fun _ h1_ => absurd ((hon 4 (by kernel_rfl)).symm.trans h1_) (by decide), fun _ h1_ => absurd ((hon 10 (by kernel_rfl)).symm.trans h1_) (by decide), Q_HO697, Q_HA_HO697, fun _ h1_ => absurd ((hon 15 (by kernel_rfl)).symm.trans h1_) (by decide), fun _ h1_ => absurd ((hon 17 (by kernel_rfl)).symm.trans h1_) (by decide), Q_HI0_e17, fun h0_ => absurd ((hoff 20 (by kernel_rfl)).symm.trans h0_) (by decide), Q_X11_, fun h0_ => absurd ((hoff 21 (by kernel_rfl)).symm.trans h0_) (by decide)⟩
    refine steps_cons ?_ ?_
    ·rintro b a w' ⟨v696, adz_v696, v706, m11_, m21_, ha, Q_HI0, Q_HK, Q_HB, Q_HI0_e2, Q_HI0_e4, Q_HO697, Q_HA_HO697, Q_HI0_e10, Q_HI0_e15, Q_HI0_e17, Q_HO707, Q_X11_, Q_X21_⟩ hb_ hon hoff
     refine ⟨_, rfl, fun K hK => ?_⟩
     have e17 : a.tmps[17]? = some (.int .i64 (rd y695 t698)) := by rw [ha]; exact putSel_on (e := (12, 17, .int .i64 (rd y695 t698))) 8 rfl rfl (hon 12 (by kernel_rfl)) rfl
     have e20 : a.tmps[20]? = some (.int .i64 t701) := by rw [ha]; exact putSel_on (e := (15, 20, .int .i64 t701)) 9 rfl rfl (hon 15 (by kernel_rfl)) rfl
     have e23 : a.tmps[23]? = some (.int .i64 (wrap64 (1 + t703))) := by rw [ha]; exact putSel_on (e := (18, 23, .int .i64 (wrap64 (1 + t703)))) 11 rfl rfl (hon 18 (by kernel_rfl)) rfl
     replace ha := am_ ha
     have HK := am_ Q_HK
     have HB := am_ Q_HB
     have HO697 := am_ (Q_HO697 (hon 8 (by kernel_rfl)))
     have HA_HO697 := am_ (Q_HA_HO697 (hon 8 (by kernel_rfl)))
     have HI0 := am_ (Q_HI0_e17 (hon 17 (by kernel_rfl)))
     refine value_ (w1 := w') (v := .agg #[.int .i64 (rd y695 t698), .int .i64 t701, .int .i64 (wrap64 (1 + t703))]) (by rfl) rfl ?_ ?_
     ·go_simp
      (try simp only [i64_w])
      try rfl
     refine hK.out _ _ ⟨v696, adz_v696, v706, m11_, m21_, (by rw [ha.out]; exact putSel_upk 12 hb_ rfl rfl rfl), fun h0_ => absurd ((hon 2 (by kernel_rfl)).symm.trans h0_) (by decide), Q_HK, Q_HB, fun _ h1_ => absurd ((hon 4 (by kernel_rfl)).symm.trans h1_) (by decide), fun _ h1_ => absurd ((hon 10 (by kernel_rfl)).symm.trans h1_) (by decide), Q_HO697, Q_HA_HO697, fun _ h1_ => absurd ((hon 15 (by kernel_rfl)).symm.trans h1_) (by decide), fun _ h1_ => absurd ((hon 17 (by kernel_rfl)).symm.trans h1_) (by decide), Q_HI0_e17, fun h0_ => absurd ((hoff 20 (by kernel_rfl)).symm.trans h0_) (by decide), Q_X11_, fun h0_ => absurd ((hoff 21 (by kernel_rfl)).symm.trans h0_) (by decide)⟩
    refine steps_cons ?_ ?_
    ·rintro b a w' ⟨v696, adz_v696, v706, m11_, m21_, ha, Q_HI0, Q_HK, Q_HB, Q_HI0_e2, Q_HI0_e4, Q_HO697, Q_HA_HO697, Q_HI0_e10, Q_HI0_e15, Q_HI0_e17, Q_HO707, Q_X11_, Q_X21_⟩ hb_ hon hoff
     refine ⟨_, rfl, fun K hK => ?_⟩
     have e11 : a.tmps[11]? = some (.agg #[.int .i64 1, .int .i64 t691, .int .i64 (wrap64 (1 + t693))]) := by rw [ha]; exact putSel_on (e := (6, 11, .agg #[.int .i64 1, .int .i64 t691, .int .i64 (wrap64 (1 + t693))])) 3 rfl rfl (hon 6 (by kernel_rfl)) rfl
     have e12 : a.tmps[12]? = some (.agg #[.int .i64 9, .int .i64 0, .int .i64 0]) := by rw [ha]; exact putSel_on (e := (7, 12, .agg #[.int .i64 9, .int .i64 0, .int .i64 0])) 4 rfl rfl (hon 7 (by kernel_rfl)) rfl
     have e24 : a.tmps[24]? = some (.agg #[.int .i64 (rd y695 t698), .int .i64 t701, .int .i64 (wrap64 (1 + t703))]) := by rw [ha]; exact putSel_on (e := (19, 24, .agg #[.int .i64 (rd y695 t698), .int .i64 t701, .int .i64 (wrap64 (1 + t703))])) 12 rfl rfl (hon 19 (by kernel_rfl)) rfl
     replace ha := am_ ha
     have HK := am_ Q_HK
     have HB := am_ Q_HB
     have HO697 := am_ (Q_HO697 (hon 8 (by kernel_rfl)))
     have HA_HO697 := am_ (Q_HA_HO697 (hon 8 (by kernel_rfl)))
     have HI0 := am_ (Q_HI0_e17 (hon 17 (by kernel_rfl)))
     obtain ⟨co20, eo20⟩ := HA_HO697.out
     clear HA_HO697
     subst eo20
     refine Kd.R_lit_step k85 _ 85 ?hg (N := 25) ?hd (xs := ([(⟨1, t691, wrap64 (1 + t693)⟩ : S85), (⟨9, 0, 0⟩ : S85), (⟨rd y695 t698, t701, wrap64 (1 + t703)⟩ : S85)] : List (S85))) (inner := [.int .i64 1, .int .i64 t691, .int .i64 (wrap64 (1 + t693)), .int .i64 9, .int .i64 0, .int .i64 0, .int .i64 (rd y695 t698), .int .i64 t701, .int .i64 (wrap64 (1 + t703))]) (ok := fun _ => True) (okp := fun _ => True) ?hr ?hp (fun _ hk => hk) trivial (Below.refl _ _) (Nat.le_refl _) (by simp) ?_; (case hd => rfl); (case hg => rfl); (case hr => first | (go_simp; done) | (go_simp; rfl)); (case hp => exact (Reps.c3 (show Kd.M k85 _ _ _ (⟨1, t691, wrap64 (1 + t693)⟩ : S85) [.int .i64 1, .int .i64 t691, .int .i64 (wrap64 (1 + t693))] from (k85_mkM _ _ _ (⟨1, t691, wrap64 (1 + t693)⟩ : S85) )) (Reps.c3 (show Kd.M k85 _ _ _ (⟨9, 0, 0⟩ : S85) [.int .i64 9, .int .i64 0, .int .i64 0] from (k85_mkM _ _ _ (⟨9, 0, 0⟩ : S85) )) (Reps.c3 (show Kd.M k85 _ _ _ (⟨rd y695 t698, t701, wrap64 (1 + t703)⟩ : S85) [.int .i64 (rd y695 t698), .int .i64 t701, .int .i64 (wrap64 (1 + t703))] from (k85_mkM _ _ _ (⟨rd y695 t698, t701, wrap64 (1 + t703)⟩ : S85) )) (Reps.none _ _)))))
     intro v706 w21 ho22 hb hg_ hnew_
     clear hg_ hnew_
     (first | rw [← Ny705.out] at ho22 | (simp only [Int.reduceToNat] at ho22; rw [← Ny705.out] at ho22))
     have n0_ := am_ (Kd.R_below (ru HO697.out) hb)
     have n1_ := am_ (Kd.R_lower ho22 (keep_size (w := w) (g := g) (row := none) z135_3))
     have n2_ := am_ (IsS116.below z135_4 hb)
     have n3_ := am_ (KeepBut.trans z135_3 (KeepBut.of_below hb g none) (.inl rfl))
     have n4_ := am_ (below_step z135_5 hb)
     clear HO697 HI0 HK HB
     have HO697 := n0_
     have HO707 := n1_
     have HI0 := n2_
     have HK := n3_
     have HB := n4_
     clear n0_ n1_ n2_ n3_ n4_ hb ho22
     refine hK.out _ _ ⟨.slice (some adz_v696) y695.length co20, adz_v696, v706, m11_, m21_, (by rw [ha.out]; exact putSel_upk 13 hb_ rfl rfl rfl), fun h0_ => absurd ((hon 2 (by kernel_rfl)).symm.trans h0_) (by decide), z135_3, z135_5, fun _ h1_ => absurd ((hon 4 (by kernel_rfl)).symm.trans h1_) (by decide), fun _ h1_ => absurd ((hon 10 (by kernel_rfl)).symm.trans h1_) (by decide), fun _ => (ru HO697.out), fun _ => ⟨_, rfl⟩, fun _ h1_ => absurd ((hon 15 (by kernel_rfl)).symm.trans h1_) (by decide), fun _ h1_ => absurd ((hon 17 (by kernel_rfl)).symm.trans h1_) (by decide), fun _ => z135_4, fun _ => (ru HO707.out), Q_X11_, fun h0_ => absurd ((hoff 21 (by kernel_rfl)).symm.trans h0_) (by decide)⟩
    refine steps_cons ?_ ?_
    ·rintro b a w' ⟨v696, adz_v696, v706, m11_, m21_, ha, Q_HI0, Q_HK, Q_HB, Q_HI0_e2, Q_HI0_e4, Q_HO697, Q_HA_HO697, Q_HI0_e10, Q_HI0_e15, Q_HI0_e17, Q_HO707, Q_X11_, Q_X21_⟩ hb_ hon hoff
     refine ⟨_, rfl, fun K hK => ?_⟩
     have e25 : a.tmps[25]? = some (v706) := by rw [ha]; exact putSel_on (e := (20, 25, v706)) 13 rfl rfl (hon 20 (by kernel_rfl)) rfl
     replace ha := am_ ha
     have HK := am_ Q_HK
     have HB := am_ Q_HB
     have HO697 := am_ (Q_HO697 (hon 8 (by kernel_rfl)))
     have HA_HO697 := am_ (Q_HA_HO697 (hon 8 (by kernel_rfl)))
     have HI0 := am_ (Q_HI0_e17 (hon 17 (by kernel_rfl)))
     have HO707 := am_ (Q_HO707 (hon 20 (by kernel_rfl)))
     refine value_ (w1 := w') (v := v706) (by rfl) rfl ?_ ?_
     ·go_simp
      (try simp only [i64_w])
      try rfl
     refine hK.out _ _ ⟨v696, adz_v696, v706, m11_, (v706), (by rw [ha.out]; exact putSel_upk 14 hb_ rfl rfl rfl), fun h0_ => absurd ((hon 2 (by kernel_rfl)).symm.trans h0_) (by decide), Q_HK, Q_HB, fun _ h1_ => absurd ((hon 4 (by kernel_rfl)).symm.trans h1_) (by decide), fun _ h1_ => absurd ((hon 10 (by kernel_rfl)).symm.trans h1_) (by decide), Q_HO697, Q_HA_HO697, fun _ h1_ => absurd ((hon 15 (by kernel_rfl)).symm.trans h1_) (by decide), fun _ h1_ => absurd ((hon 17 (by kernel_rfl)).symm.trans h1_) (by decide), Q_HI0_e17, Q_HO707, Q_X11_, fun _ => rfl⟩
    exact steps_nil
   rintro b a w21 hall ⟨v696, adz_v696, v706, m11_, m21_, ha, Q_HI0, Q_HK, Q_HB, Q_HI0_e2, Q_HI0_e4, Q_HO697, Q_HA_HO697, Q_HI0_e10, Q_HI0_e15, Q_HI0_e17, Q_HO707, Q_X11_, Q_X21_⟩
   clear HB HI0 HK
   have hb2_ := hall 2 (by kernel_rfl)
   have hb4_ := hall 4 (by kernel_rfl)
   have hb5_ := hall 5 (by kernel_rfl)
   have hb6_ := hall 6 (by kernel_rfl)
   have hb7_ := hall 7 (by kernel_rfl)
   have hb8_ := hall 8 (by kernel_rfl)
   have hb10_ := hall 10 (by kernel_rfl)
   have hb11_ := hall 11 (by kernel_rfl)
   have hb12_ := hall 12 (by kernel_rfl)
   have hb15_ := hall 15 (by kernel_rfl)
   have hb17_ := hall 17 (by kernel_rfl)
   have hb18_ := hall 18 (by kernel_rfl)
   have hb19_ := hall 19 (by kernel_rfl)
   have hb20_ := hall 20 (by kernel_rfl)
   have hb21_ := hall 21 (by kernel_rfl)
   subst ha
   obtain rfl := Q_X11_ hb11_
   obtain rfl := Q_X21_ hb21_
   simp only [putSel, hb2_, hb4_, hb5_, hb6_, hb7_, hb8_, hb10_, hb11_, hb12_, hb15_, hb17_, hb18_, hb19_, hb20_, hb21_, if_true, Act.put, List.setIfInBounds_toArray, List.set_cons_zero, List.set_cons_succ]
   clear Q_HI0
   have HK := am_ Q_HK
   clear Q_HK
   have HB := am_ Q_HB
   clear Q_HB Q_HI0_e2 Q_HI0_e4
   have HO697 := am_ (Q_HO697 hb8_)
   clear Q_HO697
   have HA_HO697 := am_ (Q_HA_HO697 hb8_)
   clear Q_HA_HO697 Q_HI0_e10 Q_HI0_e15
   have HI0 := am_ (Q_HI0_e17 hb17_)
   clear Q_HI0_e17
   have HO707 := am_ (Q_HO707 hb20_)
   clear Q_HO707 hall hb2_ hb4_ hb5_ hb6_ hb7_ hb8_ hb10_ hb11_ hb12_ hb15_ hb17_ hb18_ hb19_ hb20_ hb21_
   obtain ⟨co22, eo22⟩ := HA_HO697.out
   clear HA_HO697
   subst eo22
   try go_wp2
   go_ret
   exact ⟨_, by first | rfl | (simp [errW_none, errW_some] <;> rfl) | (simp [*, errW_none, errW_some] <;> rfl), ru HO707.out, z135_4, z135_5, z135_3⟩
  ·rw [if_neg c7] at H
   exact absurd H (by simp)
 ·rw [if_neg c6] at H
  exact absurd H (by simp)

end Go.Proofs.Ytefkbmhkhpekjaa.PB

namespace Go.Proofs.Ytefkbmhkhpekjaa.PB
open Go.RowKit Go.Proofs.YtefkbmhkhpekjaaW.PrintWords Go.Proofs.YtefkbmhkhpekjaaW.PrintLast Go.Proofs.YtefkbmhkhpekjaaW.PrintMore
attribute [local go_sem] max2_int min2_int max_two min_two max_three min_three max_four min_four   -- for this text's walks alone
open Go.Proofs.YtefkbmhkhpekjaaMine
set_option linter.unusedVariables false
set_option linter.unusedSimpArgs false

theorem z136_1 {p : Prop} (h : p := by first | rfl | (simp; done) | (simp [*]; done)) : p := h
theorem z136_2 {p : Prop} (h : p := by repeat (first | (with_reducible first | exact HB.out | apply below_alloc | apply pw_below_drewN | apply below_drew1) | exact HB.out)) : p := h
theorem z136_3 {p : Prop} (h : p := by repeat (first | (with_reducible first | exact HB.out | apply below_alloc | apply pw_below_drewN | apply below_drew1 | refine below_set ?_ GE708.out) | exact HB.out)) : p := h
/-! ### spec_l71Steps: function 136 -/
def spec_l71Steps.l0 : Nat → Int → Int → List (List (S85)) → Option (Int)
  | 0, _, _, _ => none
  | k + 1, x3, x4, x709000 => if x4 < (x709000.length : Int) then (if 0 ≤ x4 then (spec_l71Steps.l0 k (wrap64 (x3 + ((rd_L7 x709000 x4).length : Int))) (wrap64 (x4 + 1)) x709000) else (none)) else (some x3)
def spec_l71Steps.f (k : Nat) (l0_0 : List (List (S85))) : Option (Int) := spec_l71Steps.l0 k 0 0 l0_0
theorem spec_l71Steps.mono_l : ∀ k, (∀ y0 y1 y2, LeO (spec_l71Steps.l0 k y0 y1 y2) (spec_l71Steps.l0 (k + 1) y0 y1 y2))
  | 0 => fun _ _ _ r h => by simp [spec_l71Steps.l0] at h
  | k + 1 => by
    have ih0 := spec_l71Steps.mono_l k
    · intro y0 y1 y2
      unfold spec_l71Steps.l0
      repeat' first
      | (with_reducible exact ih0 _ _ _)
      | (with_reducible exact LeO.refl _)
      | (with_reducible exact LeO.none _)
      | (with_reducible refine LeO.ite ?_ ?_)
      | (with_reducible refine LeO.bind ?_ (fun _ => ?_))
      | exact ih0 _ _ _
      | exact LeO.none _
      | refine LeO.ite ?_ ?_
      | refine LeO.bind ?_ (fun _ => ?_)
theorem spec_l71Steps.mono : ∀ a0 k, LeO (spec_l71Steps.f k a0) (spec_l71Steps.f (k + 1) a0) := by
  intro a0 k
  have ih0 := spec_l71Steps.mono_l k
  unfold spec_l71Steps.f
  repeat' first
      | (with_reducible exact ih0 _ _ _)
      | (with_reducible exact LeO.refl _)
      | (with_reducible exact LeO.none _)
      | (with_reducible refine LeO.ite ?_ ?_)
      | (with_reducible refine LeO.bind ?_ (fun _ => ?_))
      | exact ih0 _ _ _
      | exact LeO.none _
      | refine LeO.ite ?_ ?_
      | refine LeO.bind ?_ (fun _ => ?_)
set_option maxHeartbeats 8000000 in
set_option maxRecDepth 100000 in
theorem spec_l71Steps.calls (k : Nat) (A0_0 : Option Addr) (c0_0 : Nat) (l0_0 : List (List (S85))) (r : Int) (w : World) (hr0_0 : Kd.C (Kd.slice 85 k85) w A0_0 l0_0.length l0_0) (hc0_0 : l0_0.length ≤ c0_0) (h : spec_l71Steps.f k l0_0 = some r) :
  Calls Try.prog 136 #[.agg #[.slice A0_0 l0_0.length c0_0]] w fun e w' => e = .returned (.int .i64 r) ∧ Below w.heap.size w w' := by
 have hu35 := Try.underlying35
 have HR0_0 := am_ hr0_0
 have HC0_0 := am_ hc0_0
 clear hr0_0 hc0_0
 have HB := am_ (Below.refl w.heap.size w)
 have H : (spec_l71Steps.l0 k 0 0 l0_0) = some r := h
 clear h
 have H' := am_ H
 clear H
 go_enter Try.func136, Try.ntmps136
 go_wp2_with (first | ((with_reducible refine gate_dst (N := 1) rfl ?_); refine box_event ?hg (N := 1) ?hd (cs := #[.slice A0_0 l0_0.length c0_0]) (t := 35) ?hr ?_; (case hd => rfl); (case hg => rfl); (case hr => first | (go_simp; done) | (go_simp; rfl)); intro gb708 hg w2 hbox hb; have n0_ := am_ (below_step z136_2 hb); have n1_ := am_ (hbox); have n2_ := am_ (by rw [hg]; exact (below_size z136_2) : w.heap.size ≤ gb708); have n3_ := am_ (by rw [hg]; exact (below_size z136_2) : w.heap.size ≤ gb708); clear HB; have HB := n0_; have BK708 := n1_; have GW708 := n2_; have GE708 := n3_; clear n0_ n1_ n2_ n3_; clear hb hbox hg))
 go_loopg [3, 4] k (fun kq v3 v4 w' => ∃ (x3_1 : Int) (x4_1 : Int), v3 = .int .i64 x3_1 ∧ v4 = .int .i64 x4_1 ∧ Aside0 (spec_l71Steps.l0 kq x3_1 x4_1 l0_0 = some r) ∧ Aside0 (kq ≤ k) ∧ Aside0 (w'.heap[gb708]? = some (.cells #[(.slice A0_0 l0_0.length c0_0)] 35 (0, 0))) ∧ Aside0 (Below w.heap.size w w'))
 case atStart => exact ⟨(0), (0), z136_1, z136_1, H', ⟨Nat.le_refl _⟩, ⟨bu BK708.out⟩, ⟨z136_3⟩⟩
 case round =>
  clear H'
  obtain ⟨x3_1, x4_1, rfl, rfl, HA, HK1, BK708, HB⟩ := hrel
  cases gk with
  | zero => exact absurd HA.out (by simp [spec_l71Steps.l0])
  | succ k1 =>
   have H := HA.out
   clear HA
   simp only [spec_l71Steps.l0] at H
   by_cases c3 : x4_1 < (l0_0.length : Int)
   ·rw [if_pos c3] at H
    have c3b0 : decide (x4_1 < (l0_0.length : Int)) = true := decide_eq_true c3
    clear c3
    by_cases c4 : 0 ≤ x4_1
    ·rw [if_pos c4] at H
     have c4b0 : decide (0 ≤ x4_1) = true := decide_eq_true c4
     clear c4
     have H' := am_ H
     clear H
     have hcz5_0 : wr.cell? ⟨gb708, 0, none⟩ = some (.slice A0_0 l0_0.length c0_0) := (blk_cell BK708.out 0).trans rfl
     have hfz5_0 := blk_frozen BK708.out 0
     have p709 : 0 ≤ (x4_1 : Int) := of_decide_eq_true (by first | (with_reducible assumption) | assumption)
     have q709 : x4_1 < (l0_0.length : Int) := of_decide_eq_true (by first | (with_reducible assumption) | assumption)
     obtain ⟨ad709, A709_0, c709_0, e709, hx709_0, hl709_0, hi709_0⟩ := at_L7 HR0_0.out x4_1 p709 q709
     cases e709
     replace hx709_0 := (HB.out.cell (World.block_lt_of_cell? w _ hx709_0)).trans hx709_0
     have HR709_0 := am_ hi709_0
     have HC709_0 := am_ hl709_0
     clear hi709_0 hl709_0
     replace p709 := eq_true p709
     replace q709 := eq_true q709
     go_wp2
     go_roundg k1
     case measure => have := HK1.out; omega
     case rel => exact ⟨(wrap64 (x3_1 + ((rd_L7 l0_0 x4_1).length : Int))), (wrap64 (x4_1 + 1)), z136_1, z136_1, H', ⟨by have := HK1.out; omega⟩, ⟨bu BK708.out⟩, ⟨z136_3⟩⟩
    ·rw [if_neg c4] at H
     exact absurd H (by simp)
   ·rw [if_neg c3] at H
    have c3b0 : decide (x4_1 < (l0_0.length : Int)) = false := decide_eq_false c3
    clear c3
    obtain rfl := Option.some.inj H
    have hcz6_0 : wr.cell? ⟨gb708, 0, none⟩ = some (.slice A0_0 l0_0.length c0_0) := (blk_cell BK708.out 0).trans rfl
    have hfz6_0 := blk_frozen BK708.out 0
    go_wp2
    go_ret
    exact ⟨by first | rfl | (simp [errW_none, errW_some] <;> rfl) | (simp [*, errW_none, errW_some] <;> rfl), z136_3⟩

end Go.Proofs.Ytefkbmhkhpekjaa.PB

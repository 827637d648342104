-- Joined by wip/mclaim.py out of YtefkbmhkhpekjaaPBx89, YtefkbmhkhpekjaaPBx39, YtefkbmhkhpekjaaPBx91, YtefkbmhkhpekjaaPBx40, YtefkbmhkhpekjaaPBx8
import Derived.Test.YtefkbmhkhpekjaaPBx0
import Derived.Test.YtefkbmhkhpekjaaJFnTurnBesidex1
import Derived.Test.YtefkbmhkhpekjaaJoinRows
import Derived.Test.YtefkbmhkhpekjaaPBx90
import Derived.Test.YtefkbmhkhpekjaaPBx114
import Derived.Test.YtefkbmhkhpekjaaPBx30
import Derived.Test.YtefkbmhkhpekjaaPBx37
import Derived.Test.YtefkbmhkhpekjaaPBx38
namespace Go.Proofs.Ytefkbmhkhpekjaa.PB
open Go.RowKit Go.Proofs.YtefkbmhkhpekjaaW.PrintWords Go.Proofs.YtefkbmhkhpekjaaW.PrintLast Go.Proofs.YtefkbmhkhpekjaaW.PrintMore
attribute [local go_sem] max2_int min2_int max_two min_two max_three min_three max_four min_four   -- for this text's walks alone
open Go.Proofs.YtefkbmhkhpekjaaMine
set_option linter.unusedVariables false
set_option linter.unusedSimpArgs false

/-! ### impl_Do_89: function 89 -/
set_option maxRecDepth 100000 in
set_option maxHeartbeats 8000000 in
/-- Two rows of rows, one behind the other: the inner rows are handed on. -/
theorem impl_Do_89.calls (gB : Nat) (vp vq : Value) (p q : List (List S85)) (P1 P2 : Nat → Prop) (base : Nat) (w : World) (hbase : base ≤ w.heap.size) (hb : w.heap[gB]? = some (.cells #[vp, vq] 33 (0, 0)))
  (h1 : Kd.S (Kd.slice 85 k85) 82 w base P1 vp p) (h2 : Kd.S (Kd.slice 85 k85) 82 w base P2 vq q) (hd : ∀ k, P1 k → ¬ P2 k) (hl1 : p.length ≤ 2097152) (hl2 : q.length ≤ 2097152) :
  Calls Try.prog 89 #[.slice (some ⟨gB, 0, none⟩) 2 2] w fun e w' => ∃ v : Value, e = .returned v ∧ Kd.S (Kd.slice 85 k85) 82 w' base (fun k => P1 k ∨ P2 k ∨ w.heap.size ≤ k) v (p ++ q) ∧ Below w.heap.size w w' := by
 obtain ⟨Ap, cp, rfl⟩ := Kd.S_slice h1
 obtain ⟨Aq, cq, rfl⟩ := Kd.S_slice h2
 have HB := am_ hb
 have H1 := am_ (Kd.S_mono (ok' := fun k => P1 k ∧ k < w.heap.size) (Kd.S_bound h1) (fun k hk => ⟨hk.1, hk.2.2.1⟩))
 have H2 := am_ (Kd.S_mono (ok' := fun k => P2 k ∧ k < w.heap.size) (Kd.S_bound h2) (fun k hk => ⟨hk.1, hk.2.2.1⟩))
 have HD := am_ hd
 clear hb h1 h2 hd
 go_enter Try.func89, Try.ntmps89
 go_wp2_with fail
 go_loopg [3, 11] 2 (fun kq v3 v11 w' => ∃ (i s : Int), v11 = .int .i64 i ∧ v3 = .int .i64 s ∧ w = w' ∧ (i = 0 ∧ s = 0 ∧ kq = 2 ∨ i = 1 ∧ s = (p.length : Int) ∧ kq = 1 ∨ i = 2 ∧ s = (p.length : Int) + (q.length : Int) ∧ kq = 0))
 case atStart => exact ⟨0, 0, rfl, rfl, rfl, .inl ⟨rfl, rfl, rfl⟩⟩
 case round =>
  obtain ⟨i, s, rfl, rfl, rfl, hc⟩ := hrel
  rcases hc with ⟨rfl, rfl, rfl⟩ | ⟨rfl, rfl, rfl⟩ | ⟨rfl, rfl, rfl⟩
  ·have hc0 : w.cell? ⟨gB, 0, none⟩ = some (.slice Ap p.length cp) := (blk_cell HB.out 0).trans rfl
   have hx : wrap64 (0 + (p.length : Int)) = (p.length : Int) := by unfold wrap64; omega
   have hz : decide ((p.length : Int) < 0) = false := decide_eq_false (by omega)
   go_wp2_with fail
   go_roundg 1
   case measure => omega
   case rel => exact ⟨1, (p.length : Int), rfl, by first | rfl | rw [hx], rfl, .inr (.inl ⟨rfl, rfl, rfl⟩)⟩
  ·have hc0 : w.cell? ⟨gB, 1, none⟩ = some (.slice Aq q.length cq) := (blk_cell HB.out 1).trans rfl
   have hx : wrap64 ((p.length : Int) + (q.length : Int)) = (p.length : Int) + (q.length : Int) := by unfold wrap64; omega
   have hz : decide ((p.length : Int) + (q.length : Int) < 0) = false := decide_eq_false (by omega)
   go_wp2_with fail
   go_roundg 0
   case measure => omega
   case rel => exact ⟨2, (p.length : Int) + (q.length : Int), rfl, by first | rfl | rw [hx], rfl, .inr (.inr ⟨rfl, rfl, rfl⟩)⟩
  ·go_wp2_with (go_at_call 122; refine park ?_)
   refine ⟨?_⟩
   refine (impl_Do_122.calls ((p.length : Int) + (q.length : Int)) base _ (by omega) (by omega) hbase).mono ?_
   rintro e w1 ⟨v, rfl, hS, hb⟩
   have HS := am_ hS
   have HBW := am_ hb
   clear hS hb
   go_wp2_with fail
   go_loopg [6, 27] 2 (fun kq v6 v27 w' => ∃ (i : Int) (u : Value), v27 = .int .i64 i ∧ u = v6 ∧ Aside0 (Below w.heap.size w w') ∧ Aside0 (∀ k, u.ownBlock = some k → w.heap.size ≤ k) ∧ (i = 0 ∧ kq = 2 ∧ Aside0 (Kd.S (Kd.slice 85 k85) 82 w' base (fun k => w.heap.size ≤ k) u []) ∨ i = 1 ∧ kq = 1 ∧ Aside0 (Kd.S (Kd.slice 85 k85) 82 w' base (fun k => P1 k ∨ w.heap.size ≤ k) u p) ∨ i = 2 ∧ kq = 0 ∧ Aside0 (Kd.S (Kd.slice 85 k85) 82 w' base (fun k => P1 k ∨ P2 k ∨ w.heap.size ≤ k) u (p ++ q))))
   case atStart => exact ⟨0, v, rfl, rfl, HBW, ⟨HS.out.choose_spec.1⟩, .inl ⟨rfl, rfl, HS⟩⟩
   case round =>
    obtain ⟨i, u, rfl, rfl, HBr, HOB, hc⟩ := hrel
    rcases hc with ⟨rfl, rfl, HS⟩ | ⟨rfl, rfl, HS⟩ | ⟨rfl, rfl, HS⟩
    ·have hc0 : wr.cell? ⟨gB, 0, none⟩ = some (.slice Ap p.length cp) := (blk_cell (blk_below HB.out HBr.out) 0).trans rfl
     go_wp2_with (at_builtin; refine park ?_)
     refine ⟨?_⟩
     refine S_append_rows (Kd.slice 85 k85) (w0 := wr) base rfl (.tmp 31) (.tmp 32) 33 82 (.slice none 0 0) 24 rfl Try.underlying33 info82 rfl (by decide) (by omega) u [] p Ap p.length cp (fun k => w.heap.size ≤ k) (fun k => P1 k ∧ k < w.heap.size) rfl rfl HS.out (Kd.S_below H1.out HBr.out) (fun k h1 h2 => by omega) (Below.refl _ _) (Nat.le_trans hbase HBr.out.size) (by simp; omega) ?_
     intro v1 w2 hS hb hg hat
     have hS1 := am_ (Kd.S_mono (ok' := (fun k => P1 k ∨ w.heap.size ≤ k)) hS (fun k hk => by rcases hk with hk | hk | hk; exact .inr hk; exact .inl hk.1; exact .inr (Nat.le_trans HBr.out.size hk)))
     have hB1 := am_ (HBr.out.grown hg HBr.out.size (fun k hk => HOB.out k hk))
     have hO1 := am_ (show ∀ k, v1.ownBlock = some k → w.heap.size ≤ k from fun k hk => by
      rcases hat with hat | ⟨b, hb1, hb2⟩
      ·exact HOB.out k (hat ▸ hk)
      ·rw [hb1] at hk; injection hk with hk; have := HBr.out.size; omega)
     clear hS hb hg hat hc0
     go_wp2_with fail
     go_roundg 1
     case measure => omega
     case rel => exact ⟨1, v1, rfl, rfl, hB1, hO1, .inr (.inl ⟨rfl, rfl, hS1⟩)⟩
    ·have hc0 : wr.cell? ⟨gB, 1, none⟩ = some (.slice Aq q.length cq) := (blk_cell (blk_below HB.out HBr.out) 1).trans rfl
     go_wp2_with (at_builtin; refine park ?_)
     refine ⟨?_⟩
     have HS1 := Kd.S_mono (ok' := fun k => (P1 k ∧ k < w.heap.size) ∨ w.heap.size ≤ k) HS.out (fun k hk => by rcases hk with hk | hk; rcases Nat.lt_or_ge k w.heap.size with h | h; exact .inl ⟨hk, h⟩; exact .inr h; exact .inr hk)
     refine S_append_rows (Kd.slice 85 k85) (w0 := wr) base rfl (.tmp 31) (.tmp 32) 33 82 (.slice none 0 0) 24 rfl Try.underlying33 info82 rfl (by decide) (by omega) u p q Aq q.length cq _ (fun k => P2 k ∧ k < w.heap.size) rfl rfl HS1 (Kd.S_below H2.out HBr.out) (fun k h1 h2 => by rcases h1 with h1 | h1; exact HD.out k h1.1 h2.1; omega) (Below.refl _ _) (Nat.le_trans hbase HBr.out.size) (by omega) ?_
     intro v1 w2 hS hb hg hat
     have hS1 := am_ (Kd.S_mono (ok' := (fun k => P1 k ∨ P2 k ∨ w.heap.size ≤ k)) hS (fun k hk => by rcases hk with (hk | hk) | hk | hk; exact .inl hk.1; exact .inr (.inr hk); exact .inr (.inl hk.1); exact .inr (.inr (Nat.le_trans HBr.out.size hk))))
     have hB1 := am_ (HBr.out.grown hg HBr.out.size (fun k hk => HOB.out k hk))
     have hO1 := am_ (show ∀ k, v1.ownBlock = some k → w.heap.size ≤ k from fun k hk => by
      rcases hat with hat | ⟨b, hb1, hb2⟩
      ·exact HOB.out k (hat ▸ hk)
      ·rw [hb1] at hk; injection hk with hk; have := HBr.out.size; omega)
     clear hS hb hg hat hc0
     go_wp2_with fail
     go_roundg 0
     case measure => omega
     case rel => exact ⟨2, v1, rfl, rfl, hB1, hO1, .inr (.inr ⟨rfl, rfl, hS1⟩)⟩
    ·go_wp2_with fail
     go_ret
     exact ⟨_, rfl, HS.out, HBr.out⟩


end Go.Proofs.Ytefkbmhkhpekjaa.PB

namespace Go.Proofs.Ytefkbmhkhpekjaa.PB
open Go.RowKit Go.Proofs.YtefkbmhkhpekjaaW.PrintWords Go.Proofs.YtefkbmhkhpekjaaW.PrintLast Go.Proofs.YtefkbmhkhpekjaaW.PrintMore
attribute [local go_sem] max2_int min2_int max_two min_two max_three min_three max_four min_four   -- for this text's walks alone
open Go.Proofs.YtefkbmhkhpekjaaMine
set_option linter.unusedVariables false
set_option linter.unusedSimpArgs false

/-! ### impl_TurnBeside: function 39 -/
def impl_TurnBeside.T1 : Bool × List (List Nat × List Nat) := (true, [([], []), ([0], [0]), ([1], [1]), ([], []), ([3, 1], [3]), ([4], [4]), ([2, 5], [2, 5]), ([6, 4], [6]), ([7], [7]), ([], []), ([9, 8, 7, 0, 1, 2, 3, 4, 5, 6, 7, 8, 9], [8, 9])])
def impl_TurnBeside.B1 : List Nat := [0, 1, 3, 0, 11, 27, 63, 127, 255, 0, 1023]
theorem impl_TurnBeside.tab1 : rtab .any (opsOf Try.f39 1) = impl_TurnBeside.T1 := by kernel_rfl
theorem impl_TurnBeside.bits1 : waitsOk impl_TurnBeside.T1.2 impl_TurnBeside.B1 = true := by kernel_rfl
def impl_TurnBeside.body (k : Nat) (l0 l1 p q : List (List S85)) : Option (List (List S85) × Bool) := (impl_ProgOk.f k l0).bind fun a => if a = true then (impl_ProgOk.f k l1).bind fun b => if b = true then (impl_ProgOk.f k (p ++ q)).bind fun c => some (if c = true then (p ++ q, true) else ([], false)) else some ([], false) else some ([], false)
def impl_TurnBeside.f (k : Nat) (l0 l1 : List (List S85)) : Option (List (List S85) × Bool) := (impl_Prog_copied.f k l0).bind fun p => (impl_Prog_copied.f k l1).bind fun q => if p.length ≤ 2097152 ∧ q.length ≤ 2097152 then impl_TurnBeside.body k l0 l1 p q else none
theorem impl_TurnBeside.mono : ∀ a0 a1 k, LeO (impl_TurnBeside.f k a0 a1) (impl_TurnBeside.f (k + 1) a0 a1) := by
  intro a0 a1 k
  unfold impl_TurnBeside.f impl_TurnBeside.body
  exact LeO.bind (impl_Prog_copied.mono _ _) (fun _ => LeO.bind (impl_Prog_copied.mono _ _) (fun _ => LeO.ite (LeO.bind (impl_ProgOk.mono _ _) (fun _ => LeO.ite (LeO.bind (impl_ProgOk.mono _ _) (fun _ => LeO.ite (LeO.bind (impl_ProgOk.mono _ _) (fun _ => LeO.refl _)) (LeO.refl _))) (LeO.refl _))) (LeO.refl _)))
set_option maxRecDepth 100000 in
set_option maxHeartbeats 8000000 in
theorem impl_TurnBeside.calls (k : Nat) (A0 : Option Addr) (c0 : Nat) (l0 : List (List S85)) (A1 : Option Addr) (c1 : Nat) (l1 : List (List S85)) (r1 : List (List S85)) (r2 : Bool) (w : World) (hr0 : Kd.C (Kd.slice 85 k85) w A0 l0.length l0) (hc0 : l0.length ≤ c0) (hr1 : Kd.C (Kd.slice 85 k85) w A1 l1.length l1) (hc1 : l1.length ≤ c1) (h : impl_TurnBeside.f k l0 l1 = some (r1, r2)) :
  Calls Try.prog 39 #[.agg #[.slice A0 l0.length c0], .agg #[.slice A1 l1.length c1]] w fun e w' => ∃ v0_ : Value, e = .returned (.tuple #[.agg #[v0_], .bool r2]) ∧ Kd.S (Kd.slice 85 k85) 82 w' w.heap.size (fun _ => True) v0_ r1 ∧ Below w.heap.size w w' := by
 have C0 := am_ hr0
 have C1 := am_ hr1
 have L0 := am_ hc0
 have L1 := am_ hc1
 obtain ⟨p, e1, h⟩ := Option.bind_eq_some_iff.mp h
 obtain ⟨q, e2, h⟩ := Option.bind_eq_some_iff.mp h
 have E1 := am_ e1
 have E2 := am_ e2
 by_cases hpq : p.length ≤ 2097152 ∧ q.length ≤ 2097152
 rotate_left
 ·rw [if_neg hpq] at h; cases h
 rw [if_pos hpq] at h
 have HPQ := am_ hpq
 unfold impl_TurnBeside.body at h
 obtain ⟨r, hr⟩ : ∃ r, p ++ q = r := ⟨_, rfl⟩
 rw [hr] at h
 have HRR := am_ hr
 have H := am_ h
 clear hr hr0 hr1 hc0 hc1 e1 e2 h hpq
 have hfl : ∀ (v : Value) (w : World), (Instr.field 35 (.agg #[v]) 0).run Try.prog w = .ok v w := fun v w => by
  simp [Instr.field, run_underlying Try.underlying35]
  try rfl
 go_enter Try.func39, Try.ntmps39
 go_wp2_with fail
 have hbP := blk_alloc (blk_alloc (heap_alloc_new w (Obj.cells #[Value.slice A0 l0.length c0] 35)) (Obj.cells #[Value.slice A1 l1.length c1] 35)) (Obj.cells #[Value.slice none 0 0] 35)
 have hbQ := blk_alloc (heap_alloc_new (w.alloc (Obj.cells #[Value.slice A0 l0.length c0] 35)) (Obj.cells #[Value.slice A1 l1.length c1] 35)) (Obj.cells #[Value.slice none 0 0] 35)
 rw [World.size_alloc] at hbQ
 have hbR := heap_alloc_new ((w.alloc (Obj.cells #[Value.slice A0 l0.length c0] 35)).alloc (Obj.cells #[Value.slice A1 l1.length c1] 35)) (Obj.cells #[Value.slice none 0 0] 35)
 rw [World.size_alloc, World.size_alloc] at hbR
 have hB3 := below_alloc (below_alloc (below_alloc (Below.refl w.heap.size w) (Obj.cells #[Value.slice A0 l0.length c0] 35)) (Obj.cells #[Value.slice A1 l1.length c1] 35)) (Obj.cells #[Value.slice none 0 0] 35)
 have hsz : w.heap.size + 3 ≤ (((w.alloc (Obj.cells #[Value.slice A0 l0.length c0] 35)).alloc (Obj.cells #[Value.slice A1 l1.length c1] 35)).alloc (Obj.cells #[Value.slice none 0 0] 35)).heap.size := by rw [World.size_alloc, World.size_alloc, World.size_alloc]; omega
 have BP_1 := am_ (blk_drew hbP)
 have BQ_2 := am_ (blk_drew hbQ)
 have BR_3 := am_ (blk_drew hbR)
 have HB_4 := am_ (below_drew hB3)
 have SZ_5 := am_ (show w.heap.size + 3 ≤ (((w.alloc (Obj.cells #[Value.slice A0 l0.length c0] 35)).alloc (Obj.cells #[Value.slice A1 l1.length c1] 35)).alloc (Obj.cells #[Value.slice none 0 0] 35)).drew.heap.size from hsz)
 clear hbP hbQ hbR hB3 hsz
 refine start_ (n := 11) (S := fun w' => w'.cell? ⟨w.heap.size, 0, none⟩ = some (.slice A0 l0.length c0) ∧ w'.cell? ⟨w.heap.size + 1, 0, none⟩ = some (.slice A1 l1.length c1)) (ds := [10]) #[false, false, false, false, false, false, false, false, false, false, false] (by kernel_rfl) rfl rfl ⟨(blk_cell BP_1.out 0).trans rfl, (blk_cell BQ_2.out 0).trans rfl⟩ (fun hHeld => ?_)
 refine with_tabW impl_TurnBeside.tab1 impl_TurnBeside.bits1 (fun HT_ HW_ => ?_)
 generalize (((w.alloc (Obj.cells #[Value.slice A0 l0.length c0] 35)).alloc (Obj.cells #[Value.slice A1 l1.length c1] 35)).alloc (Obj.cells #[Value.slice none 0 0] 35)).drew = V0 at *
 refine take_ (i := 0) (N := some 7) (v := ?_) (a' := ?_) #[true, false, false, false, false, false, false, false, false, false, false] rfl rfl (take_ofW HT_.out HW_.out (by kernel_rfl)) (fun _ _ _ h => h) (Or.inl ⟨by rfl, ?_⟩) hHeld ?_ ?_
 rotate_left
 ·intro w' s0
  have s1 := s0.1
  go_simp
  with_reducible rfl
 rotate_left
 ·simp only [Act.put, List.setIfInBounds_toArray, List.set_cons_zero, List.set_cons_succ, i64_w, i32_w]
  rfl
 refine take_ (i := 3) (N := some 10) (v := ?_) (a' := ?_) #[true, false, false, true, false, false, false, false, false, false, false] rfl rfl (take_ofW HT_.out HW_.out (by kernel_rfl)) (fun _ _ _ h => h) (Or.inl ⟨by rfl, ?_⟩) hHeld ?_ ?_
 rotate_left
 ·intro w' s0
  have s1 := s0.2
  go_simp
  with_reducible rfl
 rotate_left
 ·simp only [Act.put, List.setIfInBounds_toArray, List.set_cons_zero, List.set_cons_succ, i64_w, i32_w]
  rfl
 refine join_ (σ := Value × Value × Nat × Value × Nat) 1 #[true, true, true, true, true, true, true, true, true, true, false] (fun s_ => [(8, .agg #[s_.1]), (9, s_.1), (11, .agg #[s_.2.1]), (12, s_.2.1), (13, .slice (some ⟨s_.2.2.1, 0, none⟩) 2 2), (14, s_.2.2.2.1), (15, .agg #[s_.2.2.2.1]), (6, .pointer (some ⟨s_.2.2.2.2, 0, none⟩))]) (fun s_ w' => (w'.cell? ⟨w.heap.size, 0, none⟩ = some (.slice A0 l0.length c0) ∧ w'.cell? ⟨w.heap.size + 1, 0, none⟩ = some (.slice A1 l1.length c1)) ∧ w'.heap[w.heap.size]? = some (Obj.cells #[Value.slice A0 l0.length c0] 35) ∧ w'.heap[w.heap.size + 1]? = some (Obj.cells #[Value.slice A1 l1.length c1] 35) ∧ w'.heap[w.heap.size + 1 + 1]? = some (Obj.cells #[Value.slice none 0 0] 35) ∧ w'.heap[s_.2.2.2.2]? = some (Obj.cells #[Value.slice none 0 0] 35) ∧ Kd.S (Kd.slice 85 k85) 82 w' w.heap.size (fun _ => True) s_.2.2.2.1 r ∧ Below w.heap.size w w' ∧ w.heap.size + 3 ≤ s_.2.2.2.2) ?_ ?_
 rotate_left
 ·intro hCont
  refine two_ (i := 1) (j := 9) (Ni := some 8) (Nj := some 6) #[true, true, false, true, false, false, false, false, false, false, false] #[true, false, false, true, false, false, false, false, false, true, false] rfl rfl rfl rfl (two_of HT_.out (by kernel_rfl)) (by decide) (by decide) (fun K hK => ?_) (fun K hK => ?_)
  ·refine goes_ Try.func90 (by kernel_rfl) rfl #[.agg #[.slice A0 l0.length c0]] (by rfl) rfl rfl (by (try simp only [List.map_toArray, List.map_cons, List.map_nil]); first | done | rfl) ?_
   with_reducible refine (impl_Prog_copied.calls k _ _ l0 p _ (Kd.C_below C0.out HB_4.out) L0.out E1.out).mono ?_
   rintro e w6 ⟨vp, rfl, hS, hb⟩
   refine ⟨_, rfl, ?_⟩
   obtain ⟨Ap, cp, rfl⟩ := Kd.S_slice hS
   have hle : w.heap.size ≤ V0.heap.size := HB_4.out.size
   have BP_7 := am_ (blk_below BP_1.out hb)
   have BQ_8 := am_ (blk_below BQ_2.out hb)
   have BR_9 := am_ (blk_below BR_3.out hb)
   have HB_10 := am_ (below_then HB_4.out HB_4.out.size hb)
   have SZ_11 := am_ (Nat.le_trans SZ_5.out hb.size)
   clear BP_1 BQ_2 BR_3 HB_4 SZ_5
   have SP_12 := am_ (Kd.S_lower (Kd.S_mono (ok' := fun k => k < w6.heap.size) (Kd.S_bound hS) (fun k hk => hk.2.2.1)) hle)
   have NP_13 := am_ (Nat.le_refl w6.heap.size)
   clear hS hb hle
   refine hK.out _ _ ⟨(blk_cell BP_7.out 0).trans rfl, (blk_cell BQ_8.out 0).trans rfl⟩ (fun hHeld => ?_)
   clear hK K
   refine norm_ (a' := ?_) ?_ ?_
   rotate_left
   ·show Act.put _ (some 8) _ = _
    simp only [Act.put, List.setIfInBounds_toArray, List.set_cons_zero, List.set_cons_succ, i64_w, i32_w]
    rfl
   refine pure_ (i := 2) (N := some 9) (v := ?_) (a' := ?_) #[true, true, true, true, false, false, false, false, false, false, false] rfl rfl (any_of HT_.out (by kernel_rfl)) (fun _ _ _ h => h) (Or.inl ⟨by rfl, ?_⟩) ?_ ?_
   rotate_left
   ·intro w'
    go_simp
    with_reducible rfl
   rotate_left
   ·simp only [Act.put, List.setIfInBounds_toArray, List.set_cons_zero, List.set_cons_succ, i64_w, i32_w]
    rfl
   refine two_ (i := 4) (j := 9) (Ni := some 11) (Nj := some 6) #[true, true, true, true, true, false, false, false, false, false, false] #[true, true, true, true, false, false, false, false, false, true, false] rfl rfl rfl rfl (two_of HT_.out (by kernel_rfl)) (by decide) (by decide) (fun K hK => ?_) (fun K hK => ?_)
   ·refine goes_ Try.func90 (by kernel_rfl) rfl #[.agg #[.slice A1 l1.length c1]] (by rfl) rfl rfl (by (try simp only [List.map_toArray, List.map_cons, List.map_nil]); first | done | rfl) ?_
    with_reducible refine (impl_Prog_copied.calls k _ _ l1 q _ (Kd.C_below C1.out HB_10.out) L1.out E2.out).mono ?_
    rintro e w14 ⟨vq, rfl, hS, hb⟩
    refine ⟨_, rfl, ?_⟩
    obtain ⟨Aq, cq, rfl⟩ := Kd.S_slice hS
    have hle : w.heap.size ≤ w6.heap.size := HB_10.out.size
    have hq0 : w6.heap.size ≤ w6.heap.size := NP_13.out
    have BP_15 := am_ (blk_below BP_7.out hb)
    have BQ_16 := am_ (blk_below BQ_8.out hb)
    have BR_17 := am_ (blk_below BR_9.out hb)
    have HB_18 := am_ (below_then HB_10.out HB_10.out.size hb)
    have SZ_19 := am_ (Nat.le_trans SZ_11.out hb.size)
    have SP_20 := am_ (Kd.S_below SP_12.out hb)
    have NP_21 := am_ (Nat.le_trans NP_13.out hb.size)
    clear BP_7 BQ_8 BR_9 HB_10 SZ_11 SP_12 NP_13
    have SQ_22 := am_ (Kd.S_lower (Kd.S_mono (ok' := fun k => w6.heap.size ≤ k) (Kd.S_bound hS) (fun k hk => Nat.le_trans hq0 hk.2.1)) hle)
    clear hS hb hq0 hle
    refine hK.out _ _ ⟨(blk_cell BP_15.out 0).trans rfl, (blk_cell BQ_16.out 0).trans rfl⟩ (fun hHeld => ?_)
    clear hK K
    refine norm_ (a' := ?_) ?_ ?_
    rotate_left
    ·show Act.put _ (some 11) _ = _
     simp only [Act.put, List.setIfInBounds_toArray, List.set_cons_zero, List.set_cons_succ, i64_w, i32_w]
     rfl
    refine pure_ (i := 5) (N := some 12) (v := ?_) (a' := ?_) #[true, true, true, true, true, true, false, false, false, false, false] rfl rfl (any_of HT_.out (by kernel_rfl)) (fun _ _ _ h => h) (Or.inl ⟨by rfl, ?_⟩) ?_ ?_
    rotate_left
    ·intro w'
     go_simp
     with_reducible rfl
    rotate_left
    ·simp only [Act.put, List.setIfInBounds_toArray, List.set_cons_zero, List.set_cons_succ, i64_w, i32_w]
     rfl
    refine two_ (i := 6) (j := 9) (Ni := some 13) (Nj := some 6) #[true, true, true, true, true, true, true, false, false, false, false] #[true, true, true, true, true, true, false, false, false, true, false] rfl rfl rfl rfl (two_of HT_.out (by kernel_rfl)) (by decide) (by decide) (fun K hK => ?_) (fun K hK => ?_)
    ·refine value_ (w1 := ?_) (v := ?_) (by rfl) rfl ?_ ?_
     rotate_left 2
     ·go_simp
      constructor
      ·rfl
      ·rfl
     have hbx := heap_alloc_new w14 (Obj.cells #[Value.slice Ap p.length cp, Value.slice Aq q.length cq] 33)
     have hb := below_alloc (Below.refl w14.heap.size w14) (Obj.cells #[Value.slice Ap p.length cp, Value.slice Aq q.length cq] 33)
     have BP_24 := am_ (blk_below BP_15.out hb)
     have BQ_25 := am_ (blk_below BQ_16.out hb)
     have BR_26 := am_ (blk_below BR_17.out hb)
     have HB_27 := am_ (below_then HB_18.out HB_18.out.size hb)
     have SZ_28 := am_ (Nat.le_trans SZ_19.out hb.size)
     have SP_29 := am_ (Kd.S_below SP_20.out hb)
     have NP_30 := am_ (Nat.le_trans NP_21.out hb.size)
     have SQ_31 := am_ (Kd.S_below SQ_22.out hb)
     clear BP_15 BQ_16 BR_17 HB_18 SZ_19 SP_20 NP_21 SQ_22
     have BG_32 := am_ (hbx)
     generalize w14.alloc (Obj.cells #[Value.slice Ap p.length cp, Value.slice Aq q.length cq] 33) = w23 at *
     generalize w14.heap.size = gb at *
     clear hbx hb
     refine hK.out _ _ ⟨(blk_cell BP_24.out 0).trans rfl, (blk_cell BQ_25.out 0).trans rfl⟩ (fun hHeld => ?_)
     clear hK K
     refine norm_ (a' := ?_) ?_ ?_
     rotate_left
     ·show Act.put _ (some 13) _ = _
      simp only [Act.put, List.setIfInBounds_toArray, List.set_cons_zero, List.set_cons_succ, i64_w, i32_w]
      rfl
     refine two_ (i := 7) (j := 9) (Ni := some 14) (Nj := some 6) #[true, true, true, true, true, true, true, true, false, false, false] #[true, true, true, true, true, true, true, false, false, true, false] rfl rfl rfl rfl (two_of HT_.out (by kernel_rfl)) (by decide) (by decide) (fun K hK => ?_) (fun K hK => ?_)
     ·refine goes_ Try.func89 (by kernel_rfl) rfl #[.slice (some ⟨gb, 0, none⟩) 2 2] (by rfl) rfl rfl (by (try simp only [List.map_toArray, List.map_cons, List.map_nil]); first | done | rfl) ?_
      with_reducible refine (impl_Do_89.calls gb _ _ p q _ _ w.heap.size w23 HB_27.out.size BG_32.out SP_29.out SQ_31.out (fun k h1 h2 => by omega) HPQ.out.1 HPQ.out.2).mono ?_
      rintro e w33 ⟨vr, rfl, hS, hb⟩
      refine ⟨_, rfl, ?_⟩
      rw [HRR.out] at hS
      obtain ⟨Ar, cr, rfl⟩ := Kd.S_slice hS
      have BP_34 := am_ (blk_below BP_24.out hb)
      have BQ_35 := am_ (blk_below BQ_25.out hb)
      have BR_36 := am_ (blk_below BR_26.out hb)
      have HB_37 := am_ (below_then HB_27.out HB_27.out.size hb)
      have SZ_38 := am_ (Nat.le_trans SZ_28.out hb.size)
      have NP_39 := am_ (Nat.le_trans NP_30.out hb.size)
      clear BP_24 BQ_25 BR_26 HB_27 SZ_28 NP_30
      have SR_40 := am_ (Kd.S_mono (ok' := fun _ => True) hS (fun _ _ => trivial))
      clear hS hb
      refine hK.out _ _ ⟨(blk_cell BP_34.out 0).trans rfl, (blk_cell BQ_35.out 0).trans rfl⟩ (fun hHeld => ?_)
      clear hK K
      refine norm_ (a' := ?_) ?_ ?_
      rotate_left
      ·show Act.put _ (some 14) _ = _
       simp only [Act.put, List.setIfInBounds_toArray, List.set_cons_zero, List.set_cons_succ, i64_w, i32_w]
       rfl
      refine pure_ (i := 8) (N := some 15) (v := ?_) (a' := ?_) #[true, true, true, true, true, true, true, true, true, false, false] rfl rfl (any_of HT_.out (by kernel_rfl)) (fun _ _ _ h => h) (Or.inl ⟨by rfl, ?_⟩) ?_ ?_
      rotate_left
      ·intro w'
       go_simp
       with_reducible rfl
      rotate_left
      ·simp only [Act.put, List.setIfInBounds_toArray, List.set_cons_zero, List.set_cons_succ, i64_w, i32_w]
       rfl
      refine one_ (i := 9) (N := some 6) #[true, true, true, true, true, true, true, true, true, true, false] rfl rfl (one_of HT_.out (by kernel_rfl)) (by decide) (fun K hK => ?_)
      refine box_step (by rfl) (N := 6) rfl (cs := #[Value.slice none 0 0]) (t := 35) ?hr ?_
      case hr => first | (go_simp; done) | (go_simp; rfl)
      intro gx hgx w41 hbx hb
      have GX := am_ (show w.heap.size + 3 ≤ gx from by rw [hgx]; exact SZ_38.out)
      have BP_42 := am_ (blk_below BP_34.out hb)
      have BQ_43 := am_ (blk_below BQ_35.out hb)
      have BR_44 := am_ (blk_below BR_36.out hb)
      have HB_45 := am_ (below_then HB_37.out HB_37.out.size hb)
      have SZ_46 := am_ (Nat.le_trans SZ_38.out hb.size)
      have NP_47 := am_ (Nat.le_trans NP_39.out hb.size)
      have SR_48 := am_ (Kd.S_below SR_40.out hb)
      clear BP_34 BQ_35 BR_36 HB_37 SZ_38 NP_39 SR_40
      have BX_49 := am_ (hbx)
      clear hbx hb hgx
      refine hK.out _ _ ⟨(blk_cell BP_42.out 0).trans rfl, (blk_cell BQ_43.out 0).trans rfl⟩ (fun hHeld => ?_)
      clear hK K
      refine norm_ (a' := ?_) ?_ ?_
      rotate_left
      ·show Act.put _ (some 6) _ = _
       simp only [Act.put, List.setIfInBounds_toArray, List.set_cons_zero, List.set_cons_succ, i64_w, i32_w]
       rfl
      have zz := hCont (.slice Ap p.length cp, .slice Aq q.length cq, gb, .slice Ar r.length cr, gx) _ ⟨⟨(blk_cell BP_42.out 0).trans rfl, (blk_cell BQ_43.out 0).trans rfl⟩, BP_42.out, BQ_43.out, BR_44.out, BX_49.out, SR_48.out, HB_45.out, GX.out⟩
      simp only [putAll, Act.put, List.setIfInBounds_toArray, List.set_cons_zero, List.set_cons_succ] at zz
      exact zz
     ·refine box_step (by rfl) (N := 6) rfl (cs := #[Value.slice none 0 0]) (t := 35) ?hr ?_
      case hr => first | (go_simp; done) | (go_simp; rfl)
      intro gx hgx w33 hbx hb
      have GX := am_ (show w.heap.size + 3 ≤ gx from by rw [hgx]; exact SZ_28.out)
      have BP_34 := am_ (blk_below BP_24.out hb)
      have BQ_35 := am_ (blk_below BQ_25.out hb)
      have BR_36 := am_ (blk_below BR_26.out hb)
      have HB_37 := am_ (below_then HB_27.out HB_27.out.size hb)
      have SZ_38 := am_ (Nat.le_trans SZ_28.out hb.size)
      have SP_39 := am_ (Kd.S_below SP_29.out hb)
      have NP_40 := am_ (Nat.le_trans NP_30.out hb.size)
      have SQ_41 := am_ (Kd.S_below SQ_31.out hb)
      have BG_42 := am_ (blk_below BG_32.out hb)
      clear BP_24 BQ_25 BR_26 HB_27 SZ_28 SP_29 NP_30 SQ_31 BG_32
      have BX_43 := am_ (hbx)
      clear hbx hb hgx
      refine hK.out _ _ ⟨(blk_cell BP_34.out 0).trans rfl, (blk_cell BQ_35.out 0).trans rfl⟩ (fun hHeld => ?_)
      clear hK K
      refine norm_ (a' := ?_) ?_ ?_
      rotate_left
      ·show Act.put _ (some 6) _ = _
       simp only [Act.put, List.setIfInBounds_toArray, List.set_cons_zero, List.set_cons_succ, i64_w, i32_w]
       rfl
      refine one_ (i := 7) (N := some 14) #[true, true, true, true, true, true, true, true, false, true, false] rfl rfl (one_of HT_.out (by kernel_rfl)) (by decide) (fun K hK => ?_)
      refine goes_ Try.func89 (by kernel_rfl) rfl #[.slice (some ⟨gb, 0, none⟩) 2 2] (by rfl) rfl rfl (by (try simp only [List.map_toArray, List.map_cons, List.map_nil]); first | done | rfl) ?_
      with_reducible refine (impl_Do_89.calls gb _ _ p q _ _ w.heap.size w33 HB_37.out.size BG_42.out SP_39.out SQ_41.out (fun k h1 h2 => by omega) HPQ.out.1 HPQ.out.2).mono ?_
      rintro e w44 ⟨vr, rfl, hS, hb⟩
      refine ⟨_, rfl, ?_⟩
      rw [HRR.out] at hS
      obtain ⟨Ar, cr, rfl⟩ := Kd.S_slice hS
      have BP_45 := am_ (blk_below BP_34.out hb)
      have BQ_46 := am_ (blk_below BQ_35.out hb)
      have BR_47 := am_ (blk_below BR_36.out hb)
      have HB_48 := am_ (below_then HB_37.out HB_37.out.size hb)
      have SZ_49 := am_ (Nat.le_trans SZ_38.out hb.size)
      have NP_50 := am_ (Nat.le_trans NP_40.out hb.size)
      have BX_51 := am_ (blk_below BX_43.out hb)
      clear BP_34 BQ_35 BR_36 HB_37 SZ_38 NP_40 BX_43
      have SR_52 := am_ (Kd.S_mono (ok' := fun _ => True) hS (fun _ _ => trivial))
      clear hS hb
      refine hK.out _ _ ⟨(blk_cell BP_45.out 0).trans rfl, (blk_cell BQ_46.out 0).trans rfl⟩ (fun hHeld => ?_)
      clear hK K
      refine norm_ (a' := ?_) ?_ ?_
      rotate_left
      ·show Act.put _ (some 14) _ = _
       simp only [Act.put, List.setIfInBounds_toArray, List.set_cons_zero, List.set_cons_succ, i64_w, i32_w]
       rfl
      refine pure_ (i := 8) (N := some 15) (v := ?_) (a' := ?_) #[true, true, true, true, true, true, true, true, true, true, false] rfl rfl (any_of HT_.out (by kernel_rfl)) (fun _ _ _ h => h) (Or.inl ⟨by rfl, ?_⟩) ?_ ?_
      rotate_left
      ·intro w'
       go_simp
       with_reducible rfl
      rotate_left
      ·simp only [Act.put, List.setIfInBounds_toArray, List.set_cons_zero, List.set_cons_succ, i64_w, i32_w]
       rfl
      have zz := hCont (.slice Ap p.length cp, .slice Aq q.length cq, gb, .slice Ar r.length cr, gx) _ ⟨⟨(blk_cell BP_45.out 0).trans rfl, (blk_cell BQ_46.out 0).trans rfl⟩, BP_45.out, BQ_46.out, BR_47.out, BX_51.out, SR_52.out, HB_48.out, GX.out⟩
      simp only [putAll, Act.put, List.setIfInBounds_toArray, List.set_cons_zero, List.set_cons_succ] at zz
      exact zz
    ·refine box_step (by rfl) (N := 6) rfl (cs := #[Value.slice none 0 0]) (t := 35) ?hr ?_
     case hr => first | (go_simp; done) | (go_simp; rfl)
     intro gx hgx w23 hbx hb
     have GX := am_ (show w.heap.size + 3 ≤ gx from by rw [hgx]; exact SZ_19.out)
     have BP_24 := am_ (blk_below BP_15.out hb)
     have BQ_25 := am_ (blk_below BQ_16.out hb)
     have BR_26 := am_ (blk_below BR_17.out hb)
     have HB_27 := am_ (below_then HB_18.out HB_18.out.size hb)
     have SZ_28 := am_ (Nat.le_trans SZ_19.out hb.size)
     have SP_29 := am_ (Kd.S_below SP_20.out hb)
     have NP_30 := am_ (Nat.le_trans NP_21.out hb.size)
     have SQ_31 := am_ (Kd.S_below SQ_22.out hb)
     clear BP_15 BQ_16 BR_17 HB_18 SZ_19 SP_20 NP_21 SQ_22
     have BX_32 := am_ (hbx)
     clear hbx hb hgx
     refine hK.out _ _ ⟨(blk_cell BP_24.out 0).trans rfl, (blk_cell BQ_25.out 0).trans rfl⟩ (fun hHeld => ?_)
     clear hK K
     refine norm_ (a' := ?_) ?_ ?_
     rotate_left
     ·show Act.put _ (some 6) _ = _
      simp only [Act.put, List.setIfInBounds_toArray, List.set_cons_zero, List.set_cons_succ, i64_w, i32_w]
      rfl
     refine one_ (i := 6) (N := some 13) #[true, true, true, true, true, true, true, false, false, true, false] rfl rfl (one_of HT_.out (by kernel_rfl)) (by decide) (fun K hK => ?_)
     refine value_ (w1 := ?_) (v := ?_) (by rfl) rfl ?_ ?_
     rotate_left 2
     ·go_simp
      constructor
      ·rfl
      ·rfl
     have hbx := heap_alloc_new w23 (Obj.cells #[Value.slice Ap p.length cp, Value.slice Aq q.length cq] 33)
     have hb := below_alloc (Below.refl w23.heap.size w23) (Obj.cells #[Value.slice Ap p.length cp, Value.slice Aq q.length cq] 33)
     have BP_34 := am_ (blk_below BP_24.out hb)
     have BQ_35 := am_ (blk_below BQ_25.out hb)
     have BR_36 := am_ (blk_below BR_26.out hb)
     have HB_37 := am_ (below_then HB_27.out HB_27.out.size hb)
     have SZ_38 := am_ (Nat.le_trans SZ_28.out hb.size)
     have SP_39 := am_ (Kd.S_below SP_29.out hb)
     have NP_40 := am_ (Nat.le_trans NP_30.out hb.size)
     have SQ_41 := am_ (Kd.S_below SQ_31.out hb)
     have BX_42 := am_ (blk_below BX_32.out hb)
     clear BP_24 BQ_25 BR_26 HB_27 SZ_28 SP_29 NP_30 SQ_31 BX_32
     have BG_43 := am_ (hbx)
     generalize w23.alloc (Obj.cells #[Value.slice Ap p.length cp, Value.slice Aq q.length cq] 33) = w33 at *
     generalize w23.heap.size = gb at *
     clear hbx hb
     refine hK.out _ _ ⟨(blk_cell BP_34.out 0).trans rfl, (blk_cell BQ_35.out 0).trans rfl⟩ (fun hHeld => ?_)
     clear hK K
     refine norm_ (a' := ?_) ?_ ?_
     rotate_left
     ·show Act.put _ (some 13) _ = _
      simp only [Act.put, List.setIfInBounds_toArray, List.set_cons_zero, List.set_cons_succ, i64_w, i32_w]
      rfl
     refine one_ (i := 7) (N := some 14) #[true, true, true, true, true, true, true, true, false, true, false] rfl rfl (one_of HT_.out (by kernel_rfl)) (by decide) (fun K hK => ?_)
     refine goes_ Try.func89 (by kernel_rfl) rfl #[.slice (some ⟨gb, 0, none⟩) 2 2] (by rfl) rfl rfl (by (try simp only [List.map_toArray, List.map_cons, List.map_nil]); first | done | rfl) ?_
     with_reducible refine (impl_Do_89.calls gb _ _ p q _ _ w.heap.size w33 HB_37.out.size BG_43.out SP_39.out SQ_41.out (fun k h1 h2 => by omega) HPQ.out.1 HPQ.out.2).mono ?_
     rintro e w44 ⟨vr, rfl, hS, hb⟩
     refine ⟨_, rfl, ?_⟩
     rw [HRR.out] at hS
     obtain ⟨Ar, cr, rfl⟩ := Kd.S_slice hS
     have BP_45 := am_ (blk_below BP_34.out hb)
     have BQ_46 := am_ (blk_below BQ_35.out hb)
     have BR_47 := am_ (blk_below BR_36.out hb)
     have HB_48 := am_ (below_then HB_37.out HB_37.out.size hb)
     have SZ_49 := am_ (Nat.le_trans SZ_38.out hb.size)
     have NP_50 := am_ (Nat.le_trans NP_40.out hb.size)
     have BX_51 := am_ (blk_below BX_42.out hb)
     clear BP_34 BQ_35 BR_36 HB_37 SZ_38 NP_40 BX_42
     have SR_52 := am_ (Kd.S_mono (ok' := fun _ => True) hS (fun _ _ => trivial))
     clear hS hb
     refine hK.out _ _ ⟨(blk_cell BP_45.out 0).trans rfl, (blk_cell BQ_46.out 0).trans rfl⟩ (fun hHeld => ?_)
     clear hK K
     refine norm_ (a' := ?_) ?_ ?_
     rotate_left
     ·show Act.put _ (some 14) _ = _
      simp only [Act.put, List.setIfInBounds_toArray, List.set_cons_zero, List.set_cons_succ, i64_w, i32_w]
      rfl
     refine pure_ (i := 8) (N := some 15) (v := ?_) (a' := ?_) #[true, true, true, true, true, true, true, true, true, true, false] rfl rfl (any_of HT_.out (by kernel_rfl)) (fun _ _ _ h => h) (Or.inl ⟨by rfl, ?_⟩) ?_ ?_
     rotate_left
     ·intro w'
      go_simp
      with_reducible rfl
     rotate_left
     ·simp only [Act.put, List.setIfInBounds_toArray, List.set_cons_zero, List.set_cons_succ, i64_w, i32_w]
      rfl
     have zz := hCont (.slice Ap p.length cp, .slice Aq q.length cq, gb, .slice Ar r.length cr, gx) _ ⟨⟨(blk_cell BP_45.out 0).trans rfl, (blk_cell BQ_46.out 0).trans rfl⟩, BP_45.out, BQ_46.out, BR_47.out, BX_51.out, SR_52.out, HB_48.out, GX.out⟩
     simp only [putAll, Act.put, List.setIfInBounds_toArray, List.set_cons_zero, List.set_cons_succ] at zz
     exact zz
   ·refine box_step (by rfl) (N := 6) rfl (cs := #[Value.slice none 0 0]) (t := 35) ?hr ?_
    case hr => first | (go_simp; done) | (go_simp; rfl)
    intro gx hgx w14 hbx hb
    have GX := am_ (show w.heap.size + 3 ≤ gx from by rw [hgx]; exact SZ_11.out)
    have BP_15 := am_ (blk_below BP_7.out hb)
    have BQ_16 := am_ (blk_below BQ_8.out hb)
    have BR_17 := am_ (blk_below BR_9.out hb)
    have HB_18 := am_ (below_then HB_10.out HB_10.out.size hb)
    have SZ_19 := am_ (Nat.le_trans SZ_11.out hb.size)
    have SP_20 := am_ (Kd.S_below SP_12.out hb)
    have NP_21 := am_ (Nat.le_trans NP_13.out hb.size)
    clear BP_7 BQ_8 BR_9 HB_10 SZ_11 SP_12 NP_13
    have BX_22 := am_ (hbx)
    clear hbx hb hgx
    refine hK.out _ _ ⟨(blk_cell BP_15.out 0).trans rfl, (blk_cell BQ_16.out 0).trans rfl⟩ (fun hHeld => ?_)
    clear hK K
    refine norm_ (a' := ?_) ?_ ?_
    rotate_left
    ·show Act.put _ (some 6) _ = _
     simp only [Act.put, List.setIfInBounds_toArray, List.set_cons_zero, List.set_cons_succ, i64_w, i32_w]
     rfl
    refine one_ (i := 4) (N := some 11) #[true, true, true, true, true, false, false, false, false, true, false] rfl rfl (one_of HT_.out (by kernel_rfl)) (by decide) (fun K hK => ?_)
    refine goes_ Try.func90 (by kernel_rfl) rfl #[.agg #[.slice A1 l1.length c1]] (by rfl) rfl rfl (by (try simp only [List.map_toArray, List.map_cons, List.map_nil]); first | done | rfl) ?_
    with_reducible refine (impl_Prog_copied.calls k _ _ l1 q _ (Kd.C_below C1.out HB_18.out) L1.out E2.out).mono ?_
    rintro e w23 ⟨vq, rfl, hS, hb⟩
    refine ⟨_, rfl, ?_⟩
    obtain ⟨Aq, cq, rfl⟩ := Kd.S_slice hS
    have hle : w.heap.size ≤ w14.heap.size := HB_18.out.size
    have hq0 : w6.heap.size ≤ w14.heap.size := NP_21.out
    have BP_24 := am_ (blk_below BP_15.out hb)
    have BQ_25 := am_ (blk_below BQ_16.out hb)
    have BR_26 := am_ (blk_below BR_17.out hb)
    have HB_27 := am_ (below_then HB_18.out HB_18.out.size hb)
    have SZ_28 := am_ (Nat.le_trans SZ_19.out hb.size)
    have SP_29 := am_ (Kd.S_below SP_20.out hb)
    have NP_30 := am_ (Nat.le_trans NP_21.out hb.size)
    have BX_31 := am_ (blk_below BX_22.out hb)
    clear BP_15 BQ_16 BR_17 HB_18 SZ_19 SP_20 NP_21 BX_22
    have SQ_32 := am_ (Kd.S_lower (Kd.S_mono (ok' := fun k => w6.heap.size ≤ k) (Kd.S_bound hS) (fun k hk => Nat.le_trans hq0 hk.2.1)) hle)
    clear hS hb hq0 hle
    refine hK.out _ _ ⟨(blk_cell BP_24.out 0).trans rfl, (blk_cell BQ_25.out 0).trans rfl⟩ (fun hHeld => ?_)
    clear hK K
    refine norm_ (a' := ?_) ?_ ?_
    rotate_left
    ·show Act.put _ (some 11) _ = _
     simp only [Act.put, List.setIfInBounds_toArray, List.set_cons_zero, List.set_cons_succ, i64_w, i32_w]
     rfl
    refine pure_ (i := 5) (N := some 12) (v := ?_) (a' := ?_) #[true, true, true, true, true, true, false, false, false, true, false] rfl rfl (any_of HT_.out (by kernel_rfl)) (fun _ _ _ h => h) (Or.inl ⟨by rfl, ?_⟩) ?_ ?_
    rotate_left
    ·intro w'
     go_simp
     with_reducible rfl
    rotate_left
    ·simp only [Act.put, List.setIfInBounds_toArray, List.set_cons_zero, List.set_cons_succ, i64_w, i32_w]
     rfl
    refine one_ (i := 6) (N := some 13) #[true, true, true, true, true, true, true, false, false, true, false] rfl rfl (one_of HT_.out (by kernel_rfl)) (by decide) (fun K hK => ?_)
    refine value_ (w1 := ?_) (v := ?_) (by rfl) rfl ?_ ?_
    rotate_left 2
    ·go_simp
     constructor
     ·rfl
     ·rfl
    have hbx := heap_alloc_new w23 (Obj.cells #[Value.slice Ap p.length cp, Value.slice Aq q.length cq] 33)
    have hb := below_alloc (Below.refl w23.heap.size w23) (Obj.cells #[Value.slice Ap p.length cp, Value.slice Aq q.length cq] 33)
    have BP_34 := am_ (blk_below BP_24.out hb)
    have BQ_35 := am_ (blk_below BQ_25.out hb)
    have BR_36 := am_ (blk_below BR_26.out hb)
    have HB_37 := am_ (below_then HB_27.out HB_27.out.size hb)
    have SZ_38 := am_ (Nat.le_trans SZ_28.out hb.size)
    have SP_39 := am_ (Kd.S_below SP_29.out hb)
    have NP_40 := am_ (Nat.le_trans NP_30.out hb.size)
    have BX_41 := am_ (blk_below BX_31.out hb)
    have SQ_42 := am_ (Kd.S_below SQ_32.out hb)
    clear BP_24 BQ_25 BR_26 HB_27 SZ_28 SP_29 NP_30 BX_31 SQ_32
    have BG_43 := am_ (hbx)
    generalize w23.alloc (Obj.cells #[Value.slice Ap p.length cp, Value.slice Aq q.length cq] 33) = w33 at *
    generalize w23.heap.size = gb at *
    clear hbx hb
    refine hK.out _ _ ⟨(blk_cell BP_34.out 0).trans rfl, (blk_cell BQ_35.out 0).trans rfl⟩ (fun hHeld => ?_)
    clear hK K
    refine norm_ (a' := ?_) ?_ ?_
    rotate_left
    ·show Act.put _ (some 13) _ = _
     simp only [Act.put, List.setIfInBounds_toArray, List.set_cons_zero, List.set_cons_succ, i64_w, i32_w]
     rfl
    refine one_ (i := 7) (N := some 14) #[true, true, true, true, true, true, true, true, false, true, false] rfl rfl (one_of HT_.out (by kernel_rfl)) (by decide) (fun K hK => ?_)
    refine goes_ Try.func89 (by kernel_rfl) rfl #[.slice (some ⟨gb, 0, none⟩) 2 2] (by rfl) rfl rfl (by (try simp only [List.map_toArray, List.map_cons, List.map_nil]); first | done | rfl) ?_
    with_reducible refine (impl_Do_89.calls gb _ _ p q _ _ w.heap.size w33 HB_37.out.size BG_43.out SP_39.out SQ_42.out (fun k h1 h2 => by omega) HPQ.out.1 HPQ.out.2).mono ?_
    rintro e w44 ⟨vr, rfl, hS, hb⟩
    refine ⟨_, rfl, ?_⟩
    rw [HRR.out] at hS
    obtain ⟨Ar, cr, rfl⟩ := Kd.S_slice hS
    have BP_45 := am_ (blk_below BP_34.out hb)
    have BQ_46 := am_ (blk_below BQ_35.out hb)
    have BR_47 := am_ (blk_below BR_36.out hb)
    have HB_48 := am_ (below_then HB_37.out HB_37.out.size hb)
    have SZ_49 := am_ (Nat.le_trans SZ_38.out hb.size)
    have NP_50 := am_ (Nat.le_trans NP_40.out hb.size)
    have BX_51 := am_ (blk_below BX_41.out hb)
    clear BP_34 BQ_35 BR_36 HB_37 SZ_38 NP_40 BX_41
    have SR_52 := am_ (Kd.S_mono (ok' := fun _ => True) hS (fun _ _ => trivial))
    clear hS hb
    refine hK.out _ _ ⟨(blk_cell BP_45.out 0).trans rfl, (blk_cell BQ_46.out 0).trans rfl⟩ (fun hHeld => ?_)
    clear hK K
    refine norm_ (a' := ?_) ?_ ?_
    rotate_left
    ·show Act.put _ (some 14) _ = _
     simp only [Act.put, List.setIfInBounds_toArray, List.set_cons_zero, List.set_cons_succ, i64_w, i32_w]
     rfl
    refine pure_ (i := 8) (N := some 15) (v := ?_) (a' := ?_) #[true, true, true, true, true, true, true, true, true, true, false] rfl rfl (any_of HT_.out (by kernel_rfl)) (fun _ _ _ h => h) (Or.inl ⟨by rfl, ?_⟩) ?_ ?_
    rotate_left
    ·intro w'
     go_simp
     with_reducible rfl
    rotate_left
    ·simp only [Act.put, List.setIfInBounds_toArray, List.set_cons_zero, List.set_cons_succ, i64_w, i32_w]
     rfl
    have zz := hCont (.slice Ap p.length cp, .slice Aq q.length cq, gb, .slice Ar r.length cr, gx) _ ⟨⟨(blk_cell BP_45.out 0).trans rfl, (blk_cell BQ_46.out 0).trans rfl⟩, BP_45.out, BQ_46.out, BR_47.out, BX_51.out, SR_52.out, HB_48.out, GX.out⟩
    simp only [putAll, Act.put, List.setIfInBounds_toArray, List.set_cons_zero, List.set_cons_succ] at zz
    exact zz
  ·refine box_step (by rfl) (N := 6) rfl (cs := #[Value.slice none 0 0]) (t := 35) ?hr ?_
   case hr => first | (go_simp; done) | (go_simp; rfl)
   intro gx hgx w6 hbx hb
   have GX := am_ (show w.heap.size + 3 ≤ gx from by rw [hgx]; exact SZ_5.out)
   have BP_7 := am_ (blk_below BP_1.out hb)
   have BQ_8 := am_ (blk_below BQ_2.out hb)
   have BR_9 := am_ (blk_below BR_3.out hb)
   have HB_10 := am_ (below_then HB_4.out HB_4.out.size hb)
   have SZ_11 := am_ (Nat.le_trans SZ_5.out hb.size)
   clear BP_1 BQ_2 BR_3 HB_4 SZ_5
   have BX_12 := am_ (hbx)
   clear hbx hb hgx
   refine hK.out _ _ ⟨(blk_cell BP_7.out 0).trans rfl, (blk_cell BQ_8.out 0).trans rfl⟩ (fun hHeld => ?_)
   clear hK K
   refine norm_ (a' := ?_) ?_ ?_
   rotate_left
   ·show Act.put _ (some 6) _ = _
    simp only [Act.put, List.setIfInBounds_toArray, List.set_cons_zero, List.set_cons_succ, i64_w, i32_w]
    rfl
   refine one_ (i := 1) (N := some 8) #[true, true, false, true, false, false, false, false, false, true, false] rfl rfl (one_of HT_.out (by kernel_rfl)) (by decide) (fun K hK => ?_)
   refine goes_ Try.func90 (by kernel_rfl) rfl #[.agg #[.slice A0 l0.length c0]] (by rfl) rfl rfl (by (try simp only [List.map_toArray, List.map_cons, List.map_nil]); first | done | rfl) ?_
   with_reducible refine (impl_Prog_copied.calls k _ _ l0 p _ (Kd.C_below C0.out HB_10.out) L0.out E1.out).mono ?_
   rintro e w13 ⟨vp, rfl, hS, hb⟩
   refine ⟨_, rfl, ?_⟩
   obtain ⟨Ap, cp, rfl⟩ := Kd.S_slice hS
   have hle : w.heap.size ≤ w6.heap.size := HB_10.out.size
   have BP_14 := am_ (blk_below BP_7.out hb)
   have BQ_15 := am_ (blk_below BQ_8.out hb)
   have BR_16 := am_ (blk_below BR_9.out hb)
   have HB_17 := am_ (below_then HB_10.out HB_10.out.size hb)
   have SZ_18 := am_ (Nat.le_trans SZ_11.out hb.size)
   have BX_19 := am_ (blk_below BX_12.out hb)
   clear BP_7 BQ_8 BR_9 HB_10 SZ_11 BX_12
   have SP_20 := am_ (Kd.S_lower (Kd.S_mono (ok' := fun k => k < w13.heap.size) (Kd.S_bound hS) (fun k hk => hk.2.2.1)) hle)
   have NP_21 := am_ (Nat.le_refl w13.heap.size)
   clear hS hb hle
   refine hK.out _ _ ⟨(blk_cell BP_14.out 0).trans rfl, (blk_cell BQ_15.out 0).trans rfl⟩ (fun hHeld => ?_)
   clear hK K
   refine norm_ (a' := ?_) ?_ ?_
   rotate_left
   ·show Act.put _ (some 8) _ = _
    simp only [Act.put, List.setIfInBounds_toArray, List.set_cons_zero, List.set_cons_succ, i64_w, i32_w]
    rfl
   refine pure_ (i := 2) (N := some 9) (v := ?_) (a' := ?_) #[true, true, true, true, false, false, false, false, false, true, false] rfl rfl (any_of HT_.out (by kernel_rfl)) (fun _ _ _ h => h) (Or.inl ⟨by rfl, ?_⟩) ?_ ?_
   rotate_left
   ·intro w'
    go_simp
    with_reducible rfl
   rotate_left
   ·simp only [Act.put, List.setIfInBounds_toArray, List.set_cons_zero, List.set_cons_succ, i64_w, i32_w]
    rfl
   refine one_ (i := 4) (N := some 11) #[true, true, true, true, true, false, false, false, false, true, false] rfl rfl (one_of HT_.out (by kernel_rfl)) (by decide) (fun K hK => ?_)
   refine goes_ Try.func90 (by kernel_rfl) rfl #[.agg #[.slice A1 l1.length c1]] (by rfl) rfl rfl (by (try simp only [List.map_toArray, List.map_cons, List.map_nil]); first | done | rfl) ?_
   with_reducible refine (impl_Prog_copied.calls k _ _ l1 q _ (Kd.C_below C1.out HB_17.out) L1.out E2.out).mono ?_
   rintro e w22 ⟨vq, rfl, hS, hb⟩
   refine ⟨_, rfl, ?_⟩
   obtain ⟨Aq, cq, rfl⟩ := Kd.S_slice hS
   have hle : w.heap.size ≤ w13.heap.size := HB_17.out.size
   have hq0 : w13.heap.size ≤ w13.heap.size := NP_21.out
   have BP_23 := am_ (blk_below BP_14.out hb)
   have BQ_24 := am_ (blk_below BQ_15.out hb)
   have BR_25 := am_ (blk_below BR_16.out hb)
   have HB_26 := am_ (below_then HB_17.out HB_17.out.size hb)
   have SZ_27 := am_ (Nat.le_trans SZ_18.out hb.size)
   have BX_28 := am_ (blk_below BX_19.out hb)
   have SP_29 := am_ (Kd.S_below SP_20.out hb)
   have NP_30 := am_ (Nat.le_trans NP_21.out hb.size)
   clear BP_14 BQ_15 BR_16 HB_17 SZ_18 BX_19 SP_20 NP_21
   have SQ_31 := am_ (Kd.S_lower (Kd.S_mono (ok' := fun k => w13.heap.size ≤ k) (Kd.S_bound hS) (fun k hk => Nat.le_trans hq0 hk.2.1)) hle)
   clear hS hb hq0 hle
   refine hK.out _ _ ⟨(blk_cell BP_23.out 0).trans rfl, (blk_cell BQ_24.out 0).trans rfl⟩ (fun hHeld => ?_)
   clear hK K
   refine norm_ (a' := ?_) ?_ ?_
   rotate_left
   ·show Act.put _ (some 11) _ = _
    simp only [Act.put, List.setIfInBounds_toArray, List.set_cons_zero, List.set_cons_succ, i64_w, i32_w]
    rfl
   refine pure_ (i := 5) (N := some 12) (v := ?_) (a' := ?_) #[true, true, true, true, true, true, false, false, false, true, false] rfl rfl (any_of HT_.out (by kernel_rfl)) (fun _ _ _ h => h) (Or.inl ⟨by rfl, ?_⟩) ?_ ?_
   rotate_left
   ·intro w'
    go_simp
    with_reducible rfl
   rotate_left
   ·simp only [Act.put, List.setIfInBounds_toArray, List.set_cons_zero, List.set_cons_succ, i64_w, i32_w]
    rfl
   refine one_ (i := 6) (N := some 13) #[true, true, true, true, true, true, true, false, false, true, false] rfl rfl (one_of HT_.out (by kernel_rfl)) (by decide) (fun K hK => ?_)
   refine value_ (w1 := ?_) (v := ?_) (by rfl) rfl ?_ ?_
   rotate_left 2
   ·go_simp
    constructor
    ·rfl
    ·rfl
   have hbx := heap_alloc_new w22 (Obj.cells #[Value.slice Ap p.length cp, Value.slice Aq q.length cq] 33)
   have hb := below_alloc (Below.refl w22.heap.size w22) (Obj.cells #[Value.slice Ap p.length cp, Value.slice Aq q.length cq] 33)
   have BP_33 := am_ (blk_below BP_23.out hb)
   have BQ_34 := am_ (blk_below BQ_24.out hb)
   have BR_35 := am_ (blk_below BR_25.out hb)
   have HB_36 := am_ (below_then HB_26.out HB_26.out.size hb)
   have SZ_37 := am_ (Nat.le_trans SZ_27.out hb.size)
   have BX_38 := am_ (blk_below BX_28.out hb)
   have SP_39 := am_ (Kd.S_below SP_29.out hb)
   have NP_40 := am_ (Nat.le_trans NP_30.out hb.size)
   have SQ_41 := am_ (Kd.S_below SQ_31.out hb)
   clear BP_23 BQ_24 BR_25 HB_26 SZ_27 BX_28 SP_29 NP_30 SQ_31
   have BG_42 := am_ (hbx)
   generalize w22.alloc (Obj.cells #[Value.slice Ap p.length cp, Value.slice Aq q.length cq] 33) = w32 at *
   generalize w22.heap.size = gb at *
   clear hbx hb
   refine hK.out _ _ ⟨(blk_cell BP_33.out 0).trans rfl, (blk_cell BQ_34.out 0).trans rfl⟩ (fun hHeld => ?_)
   clear hK K
   refine norm_ (a' := ?_) ?_ ?_
   rotate_left
   ·show Act.put _ (some 13) _ = _
    simp only [Act.put, List.setIfInBounds_toArray, List.set_cons_zero, List.set_cons_succ, i64_w, i32_w]
    rfl
   refine one_ (i := 7) (N := some 14) #[true, true, true, true, true, true, true, true, false, true, false] rfl rfl (one_of HT_.out (by kernel_rfl)) (by decide) (fun K hK => ?_)
   refine goes_ Try.func89 (by kernel_rfl) rfl #[.slice (some ⟨gb, 0, none⟩) 2 2] (by rfl) rfl rfl (by (try simp only [List.map_toArray, List.map_cons, List.map_nil]); first | done | rfl) ?_
   with_reducible refine (impl_Do_89.calls gb _ _ p q _ _ w.heap.size w32 HB_36.out.size BG_42.out SP_39.out SQ_41.out (fun k h1 h2 => by omega) HPQ.out.1 HPQ.out.2).mono ?_
   rintro e w43 ⟨vr, rfl, hS, hb⟩
   refine ⟨_, rfl, ?_⟩
   rw [HRR.out] at hS
   obtain ⟨Ar, cr, rfl⟩ := Kd.S_slice hS
   have BP_44 := am_ (blk_below BP_33.out hb)
   have BQ_45 := am_ (blk_below BQ_34.out hb)
   have BR_46 := am_ (blk_below BR_35.out hb)
   have HB_47 := am_ (below_then HB_36.out HB_36.out.size hb)
   have SZ_48 := am_ (Nat.le_trans SZ_37.out hb.size)
   have BX_49 := am_ (blk_below BX_38.out hb)
   have NP_50 := am_ (Nat.le_trans NP_40.out hb.size)
   clear BP_33 BQ_34 BR_35 HB_36 SZ_37 BX_38 NP_40
   have SR_51 := am_ (Kd.S_mono (ok' := fun _ => True) hS (fun _ _ => trivial))
   clear hS hb
   refine hK.out _ _ ⟨(blk_cell BP_44.out 0).trans rfl, (blk_cell BQ_45.out 0).trans rfl⟩ (fun hHeld => ?_)
   clear hK K
   refine norm_ (a' := ?_) ?_ ?_
   rotate_left
   ·show Act.put _ (some 14) _ = _
    simp only [Act.put, List.setIfInBounds_toArray, List.set_cons_zero, List.set_cons_succ, i64_w, i32_w]
    rfl
   refine pure_ (i := 8) (N := some 15) (v := ?_) (a' := ?_) #[true, true, true, true, true, true, true, true, true, true, false] rfl rfl (any_of HT_.out (by kernel_rfl)) (fun _ _ _ h => h) (Or.inl ⟨by rfl, ?_⟩) ?_ ?_
   rotate_left
   ·intro w'
    go_simp
    with_reducible rfl
   rotate_left
   ·simp only [Act.put, List.setIfInBounds_toArray, List.set_cons_zero, List.set_cons_succ, i64_w, i32_w]
    rfl
   have zz := hCont (.slice Ap p.length cp, .slice Aq q.length cq, gb, .slice Ar r.length cr, gx) _ ⟨⟨(blk_cell BP_44.out 0).trans rfl, (blk_cell BQ_45.out 0).trans rfl⟩, BP_44.out, BQ_45.out, BR_46.out, BX_49.out, SR_51.out, HB_47.out, GX.out⟩
   simp only [putAll, Act.put, List.setIfInBounds_toArray, List.set_cons_zero, List.set_cons_succ] at zz
   exact zz
 rintro ⟨vp, vq, gb, vr, gx⟩ w5 ⟨-, hbP, hbQ, hbR, hbX, hS, hB, hgx⟩
 simp only at hbX hS hgx
 obtain ⟨Ar, cr, rfl⟩ := Kd.S_slice hS
 clear BP_1 BQ_2 BR_3 HB_4 SZ_5
 refine norm_ (a' := ?_) ?_ ?_
 rotate_left
 ·simp only [putAll, Act.put, List.setIfInBounds_toArray, List.set_cons_zero, List.set_cons_succ, i64_w, i32_w]
  rfl
 refine last_ (i := 10) (N := none) #[true, true, true, true, true, true, true, true, true, true, true] rfl rfl (one_of HT_.out (by kernel_rfl)) (by decide) (fun K hK => ?_)
 have hs18 : w5.cell? ⟨gx, 0, none⟩ = some (.slice none 0 0) := (blk_cell hbX 0).trans rfl
 have hfs18 := blk_frozen hbX 0
 refine skip_ (w1 := ?_) (by rfl) rfl ?_ ?_
 rotate_left
 ·go_simp
  rfl
 refine hK.out _ _ ?_
 clear hK K
 refine done_ (done_of HT_.out (by kernel_rfl)) ?_
 clear hs18 hfs18 HT_ HW_ hHeld
 have BP := am_ (blk_far hbP (p := ⟨gx, 0, none⟩) (by show w.heap.size ≠ gx; omega) (.slice Ar r.length cr))
 have BQ := am_ (blk_far hbQ (p := ⟨gx, 0, none⟩) (by show w.heap.size + 1 ≠ gx; omega) (.slice Ar r.length cr))
 have BR := am_ (blk_far hbR (p := ⟨gx, 0, none⟩) (by show w.heap.size + 1 + 1 ≠ gx; omega) (.slice Ar r.length cr))
 have BX := am_ (blk_set hbX 0 (.slice Ar r.length cr))
 have SR := am_ (Kd.S_set hS hbX (by decide) 0 (.slice Ar r.length cr))
 have HB := am_ (below_set (g := gx) (j := 0) (v := .slice Ar r.length cr) hB (by omega))
 generalize w5.setCell ⟨gx, 0, none⟩ (.slice Ar r.length cr) = X0 at *
 clear hbP hbQ hbR hbX hS hB
 have H0 := H.out
 clear H
 obtain ⟨a, ea, H0⟩ := Option.bind_eq_some_iff.mp H0
 have hl : X0.cell? ⟨w.heap.size, 0, none⟩ = some (.slice A0 l0.length c0) := (blk_cell BP.out 0).trans rfl
 go_wp2_with (go_at_call 31; refine park ?_)
 clear hl
 refine ⟨?_⟩
 refine (impl_ProgOk.calls k A0 c0 l0 a _ (Kd.C_below C0.out HB.out) L0.out ea).mono ?_
 rintro e X1 ⟨rfl, hb⟩
 have BP_x0 := am_ (blk_below BP.out hb)
 have BQ_x0 := am_ (blk_below BQ.out hb)
 have BR_x0 := am_ (blk_below BR.out hb)
 have BX_x0 := am_ (blk_below BX.out hb)
 have SR_x0 := am_ (Kd.S_below SR.out hb)
 have HB_x0 := am_ (below_then HB.out HB.out.size hb)
 clear hb BP BQ BR BX SR HB ea
 rcases a with _ | _
 ·rw [if_neg (by simp)] at H0
  have hcr : X1.cell? ⟨w.heap.size + 1 + 1, 0, none⟩ = some (.slice none 0 0) := (blk_cell BR_x0.out 0).trans rfl
  have hfr := blk_frozen BR_x0.out 0
  simp only [Option.some.injEq, Prod.mk.injEq, if_true, if_false, Bool.false_eq_true] at H0
  obtain ⟨rfl, rfl⟩ := H0
  go_wp2_with fail
  refine bodyPost_ret (results_ct rfl _ _ (w.heap.size + 1 + 1) 35 #[.slice none 0 0] (0, 0) _ rfl (blk_set BR_x0.out 0 _) Try.underlying35 rfl (by kernel_rfl)) rfl ?_
  exact ⟨_, rfl, Kd.S_nil _ _ _ _ _, below_set HB_x0.out (by omega)⟩
 rw [if_pos rfl] at H0
 obtain ⟨b, eb, H0⟩ := Option.bind_eq_some_iff.mp H0
 have hl : X1.cell? ⟨w.heap.size + 1, 0, none⟩ = some (.slice A1 l1.length c1) := (blk_cell BQ_x0.out 0).trans rfl
 go_wp2_with (go_at_call 31; refine park ?_)
 clear hl
 refine ⟨?_⟩
 refine (impl_ProgOk.calls k A1 c1 l1 b _ (Kd.C_below C1.out HB_x0.out) L1.out eb).mono ?_
 rintro e X2 ⟨rfl, hb⟩
 have BP_x1 := am_ (blk_below BP_x0.out hb)
 have BQ_x1 := am_ (blk_below BQ_x0.out hb)
 have BR_x1 := am_ (blk_below BR_x0.out hb)
 have BX_x1 := am_ (blk_below BX_x0.out hb)
 have SR_x1 := am_ (Kd.S_below SR_x0.out hb)
 have HB_x1 := am_ (below_then HB_x0.out HB_x0.out.size hb)
 clear hb BP_x0 BQ_x0 BR_x0 BX_x0 SR_x0 HB_x0 eb
 rcases b with _ | _
 ·rw [if_neg (by simp)] at H0
  have hcr : X2.cell? ⟨w.heap.size + 1 + 1, 0, none⟩ = some (.slice none 0 0) := (blk_cell BR_x1.out 0).trans rfl
  have hfr := blk_frozen BR_x1.out 0
  simp only [Option.some.injEq, Prod.mk.injEq, if_true, if_false, Bool.false_eq_true] at H0
  obtain ⟨rfl, rfl⟩ := H0
  go_wp2_with fail
  refine bodyPost_ret (results_ct rfl _ _ (w.heap.size + 1 + 1) 35 #[.slice none 0 0] (0, 0) _ rfl (blk_set BR_x1.out 0 _) Try.underlying35 rfl (by kernel_rfl)) rfl ?_
  exact ⟨_, rfl, Kd.S_nil _ _ _ _ _, below_set HB_x1.out (by omega)⟩
 rw [if_pos rfl] at H0
 obtain ⟨c, ec, H0⟩ := Option.bind_eq_some_iff.mp H0
 have hl : X2.cell? ⟨gx, 0, none⟩ = some (.slice Ar r.length cr) := (blk_cell BX_x1.out 0).trans rfl
 go_wp2_with (go_at_call 31; refine park ?_)
 clear hl
 refine ⟨?_⟩
 refine (impl_ProgOk.calls k Ar cr r c _ (Kd.S_reads' SR_x1.out).2.2 (Kd.S_reads' SR_x1.out).2.1 ec).mono ?_
 rintro e X3 ⟨rfl, hb⟩
 have BP_x2 := am_ (blk_below BP_x1.out hb)
 have BQ_x2 := am_ (blk_below BQ_x1.out hb)
 have BR_x2 := am_ (blk_below BR_x1.out hb)
 have BX_x2 := am_ (blk_below BX_x1.out hb)
 have SR_x2 := am_ (Kd.S_below SR_x1.out hb)
 have HB_x2 := am_ (below_then HB_x1.out HB_x1.out.size hb)
 clear hb BP_x1 BQ_x1 BR_x1 BX_x1 SR_x1 HB_x1 ec
 rcases c with _ | _
 ·have hcr : X3.cell? ⟨w.heap.size + 1 + 1, 0, none⟩ = some (.slice none 0 0) := (blk_cell BR_x2.out 0).trans rfl
  have hfr := blk_frozen BR_x2.out 0
  simp only [Option.some.injEq, Prod.mk.injEq, if_true, if_false, Bool.false_eq_true] at H0
  obtain ⟨rfl, rfl⟩ := H0
  go_wp2_with fail
  refine bodyPost_ret (results_ct rfl _ _ (w.heap.size + 1 + 1) 35 #[.slice none 0 0] (0, 0) _ rfl (blk_set BR_x2.out 0 _) Try.underlying35 rfl (by kernel_rfl)) rfl ?_
  exact ⟨_, rfl, Kd.S_nil _ _ _ _ _, below_set HB_x2.out (by omega)⟩
 ·have hcr : X3.cell? ⟨w.heap.size + 1 + 1, 0, none⟩ = some (.slice none 0 0) := (blk_cell BR_x2.out 0).trans rfl
  have hfr := blk_frozen BR_x2.out 0
  have hcx : X3.cell? ⟨gx, 0, none⟩ = some (.slice Ar r.length cr) := (blk_cell BX_x2.out 0).trans rfl
  simp only [Option.some.injEq, Prod.mk.injEq, if_true, if_false, Bool.false_eq_true] at H0
  obtain ⟨rfl, rfl⟩ := H0
  go_wp2_with fail
  refine bodyPost_ret (results_ct rfl _ _ (w.heap.size + 1 + 1) 35 #[.slice Ar r.length cr] (0, 0) _ rfl (blk_set BR_x2.out 0 _) Try.underlying35 rfl (by kernel_rfl)) rfl ?_
  exact ⟨_, rfl, Kd.S_set SR_x2.out BR_x2.out (by decide) 0 _, below_set HB_x2.out (by omega)⟩


end Go.Proofs.Ytefkbmhkhpekjaa.PB

namespace Go.Proofs.Ytefkbmhkhpekjaa.PB
open Go.RowKit Go.Proofs.YtefkbmhkhpekjaaW.PrintWords Go.Proofs.YtefkbmhkhpekjaaW.PrintLast Go.Proofs.YtefkbmhkhpekjaaW.PrintMore
attribute [local go_sem] max2_int min2_int max_two min_two max_three min_three max_four min_four   -- for this text's walks alone
open Go.Proofs.YtefkbmhkhpekjaaMine
set_option linter.unusedVariables false
set_option linter.unusedSimpArgs false

theorem z91_1 {p : Prop} (h : p := by first | rfl | (simp; done) | (simp [*]; done)) : p := h
theorem z91_2 {p : Prop} (h : p := by first | (with_reducible assumption) | assumption) : p := h
theorem z91_3 {p : Prop} (h : p := by repeat (first | (with_reducible first | exact HB.out | apply below_alloc | apply pw_below_drewN | apply below_drew1) | exact HB.out)) : p := h
theorem z91_4 {p : Prop} (h : p := by repeat (first | (with_reducible first | exact HB.out | apply below_alloc | apply pw_below_drewN | apply below_drew1 | refine below_set ?_ GE610.out) | exact HB.out)) : p := h
theorem z91_5 {p : Prop} (h : p := by (with_reducible repeat (first | refine blk_drewN ?_ _ | refine blk_drew ?_ | refine blk_alloc ?_ _)); refine blk_put (cs := #[.int .i64 ((rd_T85 l0 x8_1).f0), .int .i64 ((rd_T85 l0 x8_1).f1), .int .i64 0]) ?_ 2 _ rfl; (with_reducible repeat (first | refine blk_drewN ?_ _ | refine blk_drew ?_ | refine blk_alloc ?_ _)); refine blk_put (cs := #[.int .i64 ((rd_T85 l0 x8_1).f0), .int .i64 0, .int .i64 0]) ?_ 1 _ rfl; (with_reducible repeat (first | refine blk_drewN ?_ _ | refine blk_drew ?_ | refine blk_alloc ?_ _)); refine blk_put (cs := #[.int .i64 0, .int .i64 0, .int .i64 0]) ?_ 0 _ rfl; (with_reducible repeat (first | refine blk_drewN ?_ _ | refine blk_drew ?_ | refine blk_alloc ?_ _)); exact BK610.out) : p := h
/-! ### impl_readsOf: function 91 -/
def impl_readsOf.l0 : Nat → Int → List (S85) → Int → Int → Option (Int)
  | 0, _, _, _, _ => none
  | k + 1, x3, x6, x7, x8 => if x8 < x7 then (if 0 ≤ x8 then (if x8 < (x6.length : Int) then ((impl_Do_reads.f ((rd_T85 x6 x8).f0) ((rd_T85 x6 x8).f1) ((rd_T85 x6 x8).f2)).bind fun t611 => (if t611 = true then (impl_readsOf.l0 k (wrap64 (x3 + 1)) x6 x7 (wrap64 (x8 + 1))) else (impl_readsOf.l0 k x3 x6 x7 (wrap64 (x8 + 1))))) else (none)) else (none)) else (some x3)
def impl_readsOf.f (k : Nat) (l0 : List (S85)) : Option (Int) := impl_readsOf.l0 k 0 l0 (l0.length : Int) 0
theorem impl_readsOf.mono_l : ∀ k, (∀ y0 y1 y2 y3, LeO (impl_readsOf.l0 k y0 y1 y2 y3) (impl_readsOf.l0 (k + 1) y0 y1 y2 y3))
  | 0 => fun _ _ _ _ r h => by simp [impl_readsOf.l0] at h
  | k + 1 => by
    have ih0 := impl_readsOf.mono_l k
    · intro y0 y1 y2 y3
      unfold impl_readsOf.l0
      repeat' first
      | (with_reducible exact ih0 _ _ _ _)
      | (with_reducible exact LeO.refl _)
      | (with_reducible exact LeO.none _)
      | (with_reducible refine LeO.ite ?_ ?_)
      | (with_reducible refine LeO.bind ?_ (fun _ => ?_))
      | exact ih0 _ _ _ _
      | exact LeO.none _
      | refine LeO.ite ?_ ?_
      | refine LeO.bind ?_ (fun _ => ?_)
theorem impl_readsOf.mono : ∀ a0 k, LeO (impl_readsOf.f k a0) (impl_readsOf.f (k + 1) a0) := by
  intro a0 k
  have ih0 := impl_readsOf.mono_l k
  unfold impl_readsOf.f
  repeat' first
      | (with_reducible exact ih0 _ _ _ _)
      | (with_reducible exact LeO.refl _)
      | (with_reducible exact LeO.none _)
      | (with_reducible refine LeO.ite ?_ ?_)
      | (with_reducible refine LeO.bind ?_ (fun _ => ?_))
      | exact ih0 _ _ _ _
      | exact LeO.none _
      | refine LeO.ite ?_ ?_
      | refine LeO.bind ?_ (fun _ => ?_)
set_option maxHeartbeats 8000000 in
set_option maxRecDepth 100000 in
theorem impl_readsOf.calls (k : Nat) (A0 : Option Addr) (c0 : Nat) (l0 : List (S85)) (r : Int) (w : World) (hr0 : Kd.C k85 w A0 l0.length l0) (hc0 : l0.length ≤ c0) (h : impl_readsOf.f k l0 = some r) :
  Calls Try.prog 91 #[.slice A0 l0.length c0] w fun e w' => e = .returned (.int .i64 r) ∧ Below w.heap.size w w' := by
 have hu85 := Try.underlying85
 have HR0 := am_ hr0
 have HC0 := am_ hc0
 clear hr0 hc0
 have HB := am_ (Below.refl w.heap.size w)
 have H : (impl_readsOf.l0 k 0 l0 (l0.length : Int) 0) = some r := h
 clear h
 have H' := am_ H
 clear H
 go_enter Try.func91, Try.ntmps91
 go_wp2
 go_loopg [3, 8] k (fun kq v3 v8 w' => ∃ (x3_1 : Int) (x8_1 : Int), v3 = .int .i64 x3_1 ∧ v8 = .int .i64 x8_1 ∧ Aside0 (impl_readsOf.l0 kq x3_1 l0 (l0.length : Int) x8_1 = some r) ∧ Aside0 (kq ≤ k) ∧ Aside0 (Below w.heap.size w w'))
 case atStart => exact ⟨(0), (0), z91_1, z91_1, H', ⟨Nat.le_refl _⟩, ⟨z91_3⟩⟩
 case round =>
  clear H'
  obtain ⟨x3_1, x8_1, rfl, rfl, HA, HK1, HB⟩ := hrel
  cases gk with
  | zero => exact absurd HA.out (by simp [impl_readsOf.l0])
  | succ k1 =>
   have H := HA.out
   clear HA
   simp only [impl_readsOf.l0] at H
   by_cases c2 : x8_1 < (l0.length : Int)
   ·rw [if_pos c2] at H
    have c2b0 : decide (x8_1 < (l0.length : Int)) = true := decide_eq_true c2
    clear c2
    by_cases c3 : 0 ≤ x8_1
    ·rw [if_pos c3] at H
     have c3b0 : decide (0 ≤ x8_1) = true := decide_eq_true c3
     clear c3
     by_cases c4 : x8_1 < (l0.length : Int)
     ·rw [if_pos c4] at H
      have c4b0 : decide (x8_1 < (l0.length : Int)) = true := decide_eq_true c4
      clear c4
      replace H := Option.bind_eq_some_iff.mp H
      obtain ⟨t611, A50, H⟩ := H
      replace H : (if t611 = true then (impl_readsOf.l0 k1 (wrap64 (x3_1 + 1)) l0 (l0.length : Int) (wrap64 (x8_1 + 1))) else (impl_readsOf.l0 k1 x3_1 l0 (l0.length : Int) (wrap64 (x8_1 + 1)))) = some r := H
      have A5 := am_ A50
      clear A50
      by_cases c6 : t611 = true
      ·subst c6
       have H1 : (impl_readsOf.l0 k1 (wrap64 (x3_1 + 1)) l0 (l0.length : Int) (wrap64 (x8_1 + 1))) = some r := by rw [if_pos rfl] at H; exact H
       clear H
       have H := H1
       clear H1
       have H' := am_ H
       clear H
       have p609 : 0 ≤ (x8_1 : Int) := of_decide_eq_true z91_2
       have q609 : x8_1 < (l0.length : Int) := of_decide_eq_true z91_2
       obtain ⟨ad609, e609, hx609_0, hx609_1, hx609_2⟩ := at_T85 HR0.out x8_1 p609 q609
       cases e609
       replace hx609_0 := (HB.out.cell (World.block_lt_of_cell? w _ hx609_0)).trans hx609_0
       replace hx609_1 := (HB.out.cell (World.block_lt_of_cell? w _ hx609_1)).trans hx609_1
       replace hx609_2 := (HB.out.cell (World.block_lt_of_cell? w _ hx609_2)).trans hx609_2
       replace p609 := eq_true p609
       replace q609 := eq_true q609
       go_wp2_with (first | ((with_reducible refine gate_dst (N := 5) rfl ?_); refine box_event ?hg (N := 5) ?hd (cs := #[.int .i64 0, .int .i64 0, .int .i64 0]) (t := 85) ?hr ?_; (case hd => rfl); (case hg => rfl); (case hr => first | (go_simp; done) | (go_simp; rfl)); intro gb610 hg w7 hbox hb; have n0_ := am_ (below_step z91_3 hb); have n1_ := am_ (hbox); have n2_ := am_ (by rw [hg]; exact (below_size z91_3) : w.heap.size ≤ gb610); have n3_ := am_ (by rw [hg]; exact (below_size z91_3) : w.heap.size ≤ gb610); clear HB; have HB := n0_; have BK610 := n1_; have GW610 := n2_; have GE610 := n3_; clear n0_ n1_ n2_ n3_; clear hb hbox hg; have hcz8_0 : w7.cell? ⟨gb610, 0, none⟩ = some (.int .i64 0) := (blk_cell BK610.out 0).trans rfl; have hcz8_1 : w7.cell? ⟨gb610, 1, none⟩ = some (.int .i64 0) := (blk_cell BK610.out 1).trans rfl; have hcz8_2 : w7.cell? ⟨gb610, 2, none⟩ = some (.int .i64 0) := (blk_cell BK610.out 2).trans rfl; have hfz8_0 := blk_frozen BK610.out 0; have hfz8_1 := blk_frozen BK610.out 1; have hfz8_2 := blk_frozen BK610.out 2) | ((with_reducible refine gate_callee (f := 114) rfl ?_); refine goesL_ (some 13) rfl rfl Try.func114 (by kernel_rfl) rfl #[.agg #[.int .i64 ((rd_T85 l0 x8_1).f0), .int .i64 ((rd_T85 l0 x8_1).f1), .int .i64 ((rd_T85 l0 x8_1).f2)]] rfl (by (try simp only [List.map_toArray, List.map_cons, List.map_nil]); first | done | rfl | (simp only [List.length_drop, List.length_take]; rfl)) ?_; (with_reducible refine (impl_Do_reads.calls ((rd_T85 l0 x8_1).f0) ((rd_T85 l0 x8_1).f1) ((rd_T85 l0 x8_1).f2) true _ A5.out).mono ?_); rintro e w9 ⟨rfl, hb⟩; refine ⟨_, rfl, ?_⟩; have n0_ := am_ (blk_below (g := gb610) (o := .cells #[.int .i64 ((rd_T85 l0 x8_1).f0), .int .i64 ((rd_T85 l0 x8_1).f1), .int .i64 ((rd_T85 l0 x8_1).f2)] 85 (0, 0)) z91_5 hb); have n1_ := am_ (below_step z91_4 hb); clear BK610 HB; have BK610 := n0_; have HB := n1_; clear n0_ n1_; (try clear hb); (try clear hb2); (try clear hk); (try clear hi)))
       go_roundg k1
       case measure => have := HK1.out; omega
       case rel => exact ⟨(wrap64 (x3_1 + 1)), (wrap64 (x8_1 + 1)), z91_1, z91_1, H', ⟨by have := HK1.out; omega⟩, ⟨z91_4⟩⟩
      ·replace c6 := Bool.eq_false_iff.mpr c6
       subst c6
       have H1 : (impl_readsOf.l0 k1 x3_1 l0 (l0.length : Int) (wrap64 (x8_1 + 1))) = some r := by rw [if_neg (show ¬ (false = true) by decide)] at H; exact H
       clear H
       have H := H1
       clear H1
       have H' := am_ H
       clear H
       have p609 : 0 ≤ (x8_1 : Int) := of_decide_eq_true z91_2
       have q609 : x8_1 < (l0.length : Int) := of_decide_eq_true z91_2
       obtain ⟨ad609, e609, hx609_0, hx609_1, hx609_2⟩ := at_T85 HR0.out x8_1 p609 q609
       cases e609
       replace hx609_0 := (HB.out.cell (World.block_lt_of_cell? w _ hx609_0)).trans hx609_0
       replace hx609_1 := (HB.out.cell (World.block_lt_of_cell? w _ hx609_1)).trans hx609_1
       replace hx609_2 := (HB.out.cell (World.block_lt_of_cell? w _ hx609_2)).trans hx609_2
       replace p609 := eq_true p609
       replace q609 := eq_true q609
       go_wp2_with (first | ((with_reducible refine gate_dst (N := 5) rfl ?_); refine box_event ?hg (N := 5) ?hd (cs := #[.int .i64 0, .int .i64 0, .int .i64 0]) (t := 85) ?hr ?_; (case hd => rfl); (case hg => rfl); (case hr => first | (go_simp; done) | (go_simp; rfl)); intro gb610 hg w10 hbox hb; have n0_ := am_ (below_step z91_3 hb); have n1_ := am_ (hbox); have n2_ := am_ (by rw [hg]; exact (below_size z91_3) : w.heap.size ≤ gb610); have n3_ := am_ (by rw [hg]; exact (below_size z91_3) : w.heap.size ≤ gb610); clear HB; have HB := n0_; have BK610 := n1_; have GW610 := n2_; have GE610 := n3_; clear n0_ n1_ n2_ n3_; clear hb hbox hg; have hcz11_0 : w10.cell? ⟨gb610, 0, none⟩ = some (.int .i64 0) := (blk_cell BK610.out 0).trans rfl; have hcz11_1 : w10.cell? ⟨gb610, 1, none⟩ = some (.int .i64 0) := (blk_cell BK610.out 1).trans rfl; have hcz11_2 : w10.cell? ⟨gb610, 2, none⟩ = some (.int .i64 0) := (blk_cell BK610.out 2).trans rfl; have hfz11_0 := blk_frozen BK610.out 0; have hfz11_1 := blk_frozen BK610.out 1; have hfz11_2 := blk_frozen BK610.out 2) | ((with_reducible refine gate_callee (f := 114) rfl ?_); refine goesL_ (some 13) rfl rfl Try.func114 (by kernel_rfl) rfl #[.agg #[.int .i64 ((rd_T85 l0 x8_1).f0), .int .i64 ((rd_T85 l0 x8_1).f1), .int .i64 ((rd_T85 l0 x8_1).f2)]] rfl (by (try simp only [List.map_toArray, List.map_cons, List.map_nil]); first | done | rfl | (simp only [List.length_drop, List.length_take]; rfl)) ?_; (with_reducible refine (impl_Do_reads.calls ((rd_T85 l0 x8_1).f0) ((rd_T85 l0 x8_1).f1) ((rd_T85 l0 x8_1).f2) false _ A5.out).mono ?_); rintro e w12 ⟨rfl, hb⟩; refine ⟨_, rfl, ?_⟩; have n0_ := am_ (blk_below (g := gb610) (o := .cells #[.int .i64 ((rd_T85 l0 x8_1).f0), .int .i64 ((rd_T85 l0 x8_1).f1), .int .i64 ((rd_T85 l0 x8_1).f2)] 85 (0, 0)) z91_5 hb); have n1_ := am_ (below_step z91_4 hb); clear BK610 HB; have BK610 := n0_; have HB := n1_; clear n0_ n1_; (try clear hb); (try clear hb2); (try clear hk); (try clear hi)))
       go_roundg k1
       case measure => have := HK1.out; omega
       case rel => exact ⟨(x3_1), (wrap64 (x8_1 + 1)), z91_1, z91_1, H', ⟨by have := HK1.out; omega⟩, ⟨z91_4⟩⟩
     ·rw [if_neg c4] at H
      exact absurd H (by simp)
    ·rw [if_neg c3] at H
     exact absurd H (by simp)
   ·rw [if_neg c2] at H
    have c2b0 : decide (x8_1 < (l0.length : Int)) = false := decide_eq_false c2
    clear c2
    obtain rfl := Option.some.inj H
    go_wp2
    go_ret
    exact ⟨by first | rfl | (simp [errW_none, errW_some] <;> rfl) | (simp [*, errW_none, errW_some] <;> rfl), z91_3⟩

end Go.Proofs.Ytefkbmhkhpekjaa.PB

namespace Go.Proofs.Ytefkbmhkhpekjaa.PB
open Go.RowKit Go.Proofs.YtefkbmhkhpekjaaW.PrintWords Go.Proofs.YtefkbmhkhpekjaaW.PrintLast Go.Proofs.YtefkbmhkhpekjaaW.PrintMore
attribute [local go_sem] max2_int min2_int max_two min_two max_three min_three max_four min_four   -- for this text's walks alone
open Go.Proofs.YtefkbmhkhpekjaaMine
set_option linter.unusedVariables false
set_option linter.unusedSimpArgs false

theorem z40_1 {p : Prop} (h : p := by first | rfl | (simp; done) | (simp [*]; done)) : p := h
theorem z40_2 {p : Prop} (h : p := by first | rfl | (simp [errW_none, errW_some] <;> rfl) | (simp [*, errW_none, errW_some] <;> rfl)) : p := h
theorem z40_3 {p : Prop} (h : p := by repeat (first | (with_reducible first | exact HB.out | apply below_alloc | apply pw_below_drewN | apply below_drew1) | exact HB.out)) : p := h
theorem z40_4 {p : Prop} (h : p := by repeat (first | (with_reducible first | exact HB.out | apply below_alloc | apply pw_below_drewN | apply below_drew1 | refine below_set ?_ GE612.out) | exact HB.out)) : p := h
/-! ### impl_ProgReads: function 40 -/
def impl_ProgReads.l0 : Nat → Int → List (List (S85)) → Int → Int → Option (Int)
  | 0, _, _, _, _ => none
  | k + 1, x3, x10, x11, x12 => if x12 < x11 then (if 0 ≤ x12 then (if x12 < (x10.length : Int) then ((impl_readsOf.f k (rd_L7 x10 x12)).bind fun t615 => (impl_ProgReads.l0 k (wrap64 (x3 + t615)) x10 x11 (wrap64 (x12 + 1)))) else (none)) else (none)) else (some x3)
def impl_ProgReads.f (k : Nat) (l0_0 : List (List (S85))) : Option (Int) := (impl_ProgOk.f k l0_0).bind fun t613 => (if t613 = true then (impl_ProgReads.l0 k 0 l0_0 (l0_0.length : Int) 0) else (some (-1)))
theorem impl_ProgReads.mono_l : ∀ k, (∀ y0 y1 y2 y3, LeO (impl_ProgReads.l0 k y0 y1 y2 y3) (impl_ProgReads.l0 (k + 1) y0 y1 y2 y3))
  | 0 => fun _ _ _ _ r h => by simp [impl_ProgReads.l0] at h
  | k + 1 => by
    have ih0 := impl_ProgReads.mono_l k
    · intro y0 y1 y2 y3
      unfold impl_ProgReads.l0
      repeat' first
      | (with_reducible exact ih0 _ _ _ _)
      | (with_reducible exact impl_ProgOk.mono _ _)
      | (with_reducible exact impl_readsOf.mono _ _)
      | (with_reducible exact LeO.refl _)
      | (with_reducible exact LeO.none _)
      | (with_reducible refine LeO.ite ?_ ?_)
      | (with_reducible refine LeO.bind ?_ (fun _ => ?_))
      | exact ih0 _ _ _ _
      | exact impl_ProgOk.mono _ _
      | exact impl_readsOf.mono _ _
      | exact LeO.none _
      | refine LeO.ite ?_ ?_
      | refine LeO.bind ?_ (fun _ => ?_)
theorem impl_ProgReads.mono : ∀ a0 k, LeO (impl_ProgReads.f k a0) (impl_ProgReads.f (k + 1) a0) := by
  intro a0 k
  have ih0 := impl_ProgReads.mono_l k
  unfold impl_ProgReads.f
  repeat' first
      | (with_reducible exact ih0 _ _ _ _)
      | (with_reducible exact impl_ProgOk.mono _ _)
      | (with_reducible exact impl_readsOf.mono _ _)
      | (with_reducible exact LeO.refl _)
      | (with_reducible exact LeO.none _)
      | (with_reducible refine LeO.ite ?_ ?_)
      | (with_reducible refine LeO.bind ?_ (fun _ => ?_))
      | exact ih0 _ _ _ _
      | exact impl_ProgOk.mono _ _
      | exact impl_readsOf.mono _ _
      | exact LeO.none _
      | refine LeO.ite ?_ ?_
      | refine LeO.bind ?_ (fun _ => ?_)
set_option maxHeartbeats 8000000 in
set_option maxRecDepth 100000 in
theorem impl_ProgReads.calls (k : Nat) (A0_0 : Option Addr) (c0_0 : Nat) (l0_0 : List (List (S85))) (r : Int) (w : World) (hr0_0 : Kd.C (Kd.slice 85 k85) w A0_0 l0_0.length l0_0) (hc0_0 : l0_0.length ≤ c0_0) (h : impl_ProgReads.f k l0_0 = some r) :
  Calls Try.prog 40 #[.agg #[.slice A0_0 l0_0.length c0_0]] w fun e w' => e = .returned (.int .i64 r) ∧ Below w.heap.size w w' := by
 have hu35 := Try.underlying35
 have HR0_0 := am_ hr0_0
 have HC0_0 := am_ hc0_0
 clear hr0_0 hc0_0
 have HB := am_ (Below.refl w.heap.size w)
 have H : ((impl_ProgOk.f k l0_0).bind fun t613 => (if t613 = true then (impl_ProgReads.l0 k 0 l0_0 (l0_0.length : Int) 0) else (some (-1)))) = some r := h
 clear h
 replace H := Option.bind_eq_some_iff.mp H
 obtain ⟨t613, A20, H⟩ := H
 replace H : (if t613 = true then (impl_ProgReads.l0 k 0 l0_0 (l0_0.length : Int) 0) else (some (-1))) = some r := H
 have A2 := am_ A20
 clear A20
 by_cases c3 : t613 = true
 ·subst c3
  have H1 : (impl_ProgReads.l0 k 0 l0_0 (l0_0.length : Int) 0) = some r := by rw [if_pos rfl] at H; exact H
  clear H
  have H := H1
  clear H1
  have H' := am_ H
  clear H
  go_enter Try.func40, Try.ntmps40
  go_wp2_with (first | ((with_reducible refine gate_dst (N := 1) rfl ?_); refine box_event ?hg (N := 1) ?hd (cs := #[.slice A0_0 l0_0.length c0_0]) (t := 35) ?hr ?_; (case hd => rfl); (case hg => rfl); (case hr => first | (go_simp; done) | (go_simp; rfl)); intro gb612 hg w4 hbox hb; have n0_ := am_ (below_step z40_3 hb); have n1_ := am_ (hbox); have n2_ := am_ (by rw [hg]; exact (below_size z40_3) : w.heap.size ≤ gb612); have n3_ := am_ (by rw [hg]; exact (below_size z40_3) : w.heap.size ≤ gb612); clear HB; have HB := n0_; have BK612 := n1_; have GW612 := n2_; have GE612 := n3_; clear n0_ n1_ n2_ n3_; clear hb hbox hg; have hcz5_0 : w4.cell? ⟨gb612, 0, none⟩ = some (.slice A0_0 l0_0.length c0_0) := (blk_cell BK612.out 0).trans rfl; have hfz5_0 := blk_frozen BK612.out 0) | ((with_reducible refine gate_callee (f := 31) rfl ?_); refine goesL_ (some 7) rfl rfl Try.func31 (by kernel_rfl) rfl #[.agg #[.slice A0_0 l0_0.length c0_0]] rfl (by (try simp only [List.map_toArray, List.map_cons, List.map_nil]); first | done | rfl | (simp only [List.length_drop, List.length_take]; rfl)) ?_; (with_reducible refine (impl_ProgOk.calls k _ _ l0_0 true _ ?side1 ?side2 A2.out).mono ?_); (case side1 => repeat (first | exact (Kd.C_below HR0_0.out HB.out) | (with_reducible refine Kd.C_alloc ?_ _) | (with_reducible refine Kd.C_drewN ?_ _) | (with_reducible refine Kd.C_drew ?_))); (case side2 => exact HC0_0.out); rintro e w6 ⟨rfl, hb⟩; refine ⟨_, rfl, ?_⟩; have n0_ := am_ (blk_below (bu BK612.out) hb); have n1_ := am_ (below_step z40_4 hb); clear BK612 HB; have BK612 := n0_; have HB := n1_; clear n0_ n1_; (try clear hb); (try clear hb2); (try clear hk); (try clear hi); have hcz7_0 : w6.cell? ⟨gb612, 0, none⟩ = some (.slice A0_0 l0_0.length c0_0) := (blk_cell BK612.out 0).trans rfl; have hfz7_0 := blk_frozen BK612.out 0))
  go_loopg [3, 12] k (fun kq v3 v12 w' => ∃ (x3_1 : Int) (x12_1 : Int), v3 = .int .i64 x3_1 ∧ v12 = .int .i64 x12_1 ∧ Aside0 (impl_ProgReads.l0 kq x3_1 l0_0 (l0_0.length : Int) x12_1 = some r) ∧ Aside0 (kq ≤ k) ∧ Aside0 (w'.heap[gb612]? = some (.cells #[(.slice A0_0 l0_0.length c0_0)] 35 (0, 0))) ∧ Aside0 (Below w.heap.size w w'))
  case atStart => exact ⟨(0), (0), z40_1, z40_1, H', ⟨Nat.le_refl _⟩, ⟨bu BK612.out⟩, ⟨z40_4⟩⟩
  case round =>
   clear H'
   obtain ⟨x3_1, x12_1, rfl, rfl, HA, HK1, BK612, HB⟩ := hrel
   cases gk with
   | zero => exact absurd HA.out (by simp [impl_ProgReads.l0])
   | succ k1 =>
    have H := HA.out
    clear HA
    simp only [impl_ProgReads.l0] at H
    by_cases c8 : x12_1 < (l0_0.length : Int)
    ·rw [if_pos c8] at H
     have c8b0 : decide (x12_1 < (l0_0.length : Int)) = true := decide_eq_true c8
     clear c8
     by_cases c9 : 0 ≤ x12_1
     ·rw [if_pos c9] at H
      have c9b0 : decide (0 ≤ x12_1) = true := decide_eq_true c9
      clear c9
      by_cases c10 : x12_1 < (l0_0.length : Int)
      ·rw [if_pos c10] at H
       have c10b0 : decide (x12_1 < (l0_0.length : Int)) = true := decide_eq_true c10
       clear c10
       replace H := Option.bind_eq_some_iff.mp H
       obtain ⟨t615, A110, H⟩ := H
       replace H : (impl_ProgReads.l0 k1 (wrap64 (x3_1 + t615)) l0_0 (l0_0.length : Int) (wrap64 (x12_1 + 1))) = some r := H
       have A11 := am_ A110
       clear A110
       have H' := am_ H
       clear H
       have p614 : 0 ≤ (x12_1 : Int) := of_decide_eq_true (by first | (with_reducible assumption) | assumption)
       have q614 : x12_1 < (l0_0.length : Int) := of_decide_eq_true (by first | (with_reducible assumption) | assumption)
       obtain ⟨ad614, A614_0, c614_0, e614, hx614_0, hl614_0, hi614_0⟩ := at_L7 HR0_0.out x12_1 p614 q614
       cases e614
       replace hx614_0 := (HB.out.cell (World.block_lt_of_cell? w _ hx614_0)).trans hx614_0
       have HR614_0 := am_ hi614_0
       have HC614_0 := am_ hl614_0
       clear hi614_0 hl614_0
       replace p614 := eq_true p614
       replace q614 := eq_true q614
       go_wp2_with (first | ((with_reducible refine gate_callee (f := 91) rfl ?_); refine goesL_ (some 18) rfl rfl Try.func91 (by kernel_rfl) rfl #[.slice A614_0 (rd_L7 l0_0 x12_1).length c614_0] rfl (by (try simp only [List.map_toArray, List.map_cons, List.map_nil]); first | done | rfl | (simp only [List.length_drop, List.length_take]; rfl)) ?_; (with_reducible refine (impl_readsOf.calls k1 _ _ (rd_L7 l0_0 x12_1) t615 _ ?side1 ?side2 A11.out).mono ?_); (case side1 => repeat (first | exact (Kd.C_below HR614_0.out HB.out) | (with_reducible refine Kd.C_alloc ?_ _) | (with_reducible refine Kd.C_drewN ?_ _) | (with_reducible refine Kd.C_drew ?_))); (case side2 => exact HC614_0.out); rintro e w12 ⟨rfl, hb⟩; refine ⟨_, rfl, ?_⟩; have n0_ := am_ (blk_below (bu BK612.out) hb); have n1_ := am_ (below_step z40_4 hb); clear BK612 HB; have BK612 := n0_; have HB := n1_; clear n0_ n1_; (try clear hb); (try clear hb2); (try clear hk); (try clear hi)))
       go_roundg k1
       case measure => have := HK1.out; omega
       case rel => exact ⟨(wrap64 (x3_1 + t615)), (wrap64 (x12_1 + 1)), z40_1, z40_1, H', ⟨by have := HK1.out; omega⟩, ⟨bu BK612.out⟩, ⟨z40_4⟩⟩
      ·rw [if_neg c10] at H
       exact absurd H (by simp)
     ·rw [if_neg c9] at H
      exact absurd H (by simp)
    ·rw [if_neg c8] at H
     have c8b0 : decide (x12_1 < (l0_0.length : Int)) = false := decide_eq_false c8
     clear c8
     obtain rfl := Option.some.inj H
     go_wp2
     go_ret
     exact ⟨z40_2, z40_4⟩
 ·replace c3 := Bool.eq_false_iff.mpr c3
  subst c3
  have H1 : (some (-1)) = some r := by rw [if_neg (show ¬ (false = true) by decide)] at H; exact H
  clear H
  have H := H1
  clear H1
  obtain rfl := Option.some.inj H
  go_enter Try.func40, Try.ntmps40
  go_wp2_with (first | ((with_reducible refine gate_dst (N := 1) rfl ?_); refine box_event ?hg (N := 1) ?hd (cs := #[.slice A0_0 l0_0.length c0_0]) (t := 35) ?hr ?_; (case hd => rfl); (case hg => rfl); (case hr => first | (go_simp; done) | (go_simp; rfl)); intro gb612 hg w13 hbox hb; have n0_ := am_ (below_step z40_3 hb); have n1_ := am_ (hbox); have n2_ := am_ (by rw [hg]; exact (below_size z40_3) : w.heap.size ≤ gb612); have n3_ := am_ (by rw [hg]; exact (below_size z40_3) : w.heap.size ≤ gb612); clear HB; have HB := n0_; have BK612 := n1_; have GW612 := n2_; have GE612 := n3_; clear n0_ n1_ n2_ n3_; clear hb hbox hg; have hcz14_0 : w13.cell? ⟨gb612, 0, none⟩ = some (.slice A0_0 l0_0.length c0_0) := (blk_cell BK612.out 0).trans rfl; have hfz14_0 := blk_frozen BK612.out 0) | ((with_reducible refine gate_callee (f := 31) rfl ?_); refine goesL_ (some 7) rfl rfl Try.func31 (by kernel_rfl) rfl #[.agg #[.slice A0_0 l0_0.length c0_0]] rfl (by (try simp only [List.map_toArray, List.map_cons, List.map_nil]); first | done | rfl | (simp only [List.length_drop, List.length_take]; rfl)) ?_; (with_reducible refine (impl_ProgOk.calls k _ _ l0_0 false _ ?side1 ?side2 A2.out).mono ?_); (case side1 => repeat (first | exact (Kd.C_below HR0_0.out HB.out) | (with_reducible refine Kd.C_alloc ?_ _) | (with_reducible refine Kd.C_drewN ?_ _) | (with_reducible refine Kd.C_drew ?_))); (case side2 => exact HC0_0.out); rintro e w15 ⟨rfl, hb⟩; refine ⟨_, rfl, ?_⟩; have n0_ := am_ (blk_below (bu BK612.out) hb); have n1_ := am_ (below_step z40_4 hb); clear BK612 HB; have BK612 := n0_; have HB := n1_; clear n0_ n1_; (try clear hb); (try clear hb2); (try clear hk); (try clear hi)))
  go_ret
  exact ⟨z40_2, z40_4⟩

end Go.Proofs.Ytefkbmhkhpekjaa.PB

namespace Go.Proofs.Ytefkbmhkhpekjaa.PB
open Go.RowKit Go.Proofs.YtefkbmhkhpekjaaW.PrintWords Go.Proofs.YtefkbmhkhpekjaaW.PrintLast Go.Proofs.YtefkbmhkhpekjaaW.PrintMore
attribute [local go_sem] max2_int min2_int max_two min_two max_three min_three max_four min_four   -- for this text's walks alone
open Go.Proofs.YtefkbmhkhpekjaaMine
set_option linter.unusedVariables false
set_option linter.unusedSimpArgs false

theorem z8_1 {p : Prop} (h : p := by first | rfl | (simp; done) | (simp [*]; done)) : p := h
theorem z8_2 {p : Prop} (h : p := by first | (with_reducible assumption) | assumption) : p := h
theorem z8_3 {p : Prop} (h : p := by first | rfl | (simp [errW_none, errW_some] <;> rfl) | (simp [*, errW_none, errW_some] <;> rfl)) : p := h
theorem z8_4 {p : Prop} (h : p := by repeat (first | (with_reducible first | exact HB.out | apply below_alloc | apply pw_below_drewN | apply below_drew1) | exact HB.out)) : p := h
theorem z8_5 {p : Prop} (h : p := by repeat (first | (with_reducible first | exact HB.out | apply below_alloc | apply pw_below_drewN | apply below_drew1 | refine below_set ?_ GE622.out) | exact HB.out)) : p := h
theorem z8_6 {p : Prop} (h : p := by repeat (first | (with_reducible exact HR642.out) | (with_reducible refine Kd.C_alloc ?_ _) | (with_reducible refine Kd.C_drewN ?_ _) | (with_reducible refine Kd.C_drew ?_) | exact HR642.out)) : p := h
theorem z8_7 {p : Prop} (h : p := by repeat (first | (with_reducible exact HR647.out) | (with_reducible refine Kd.C_alloc ?_ _) | (with_reducible refine Kd.C_drewN ?_ _) | (with_reducible refine Kd.C_drew ?_) | exact HR647.out)) : p := h
theorem z8_8 {p : Prop} (h : p := by repeat (first | (with_reducible first | exact HB.out | apply below_alloc | apply pw_below_drewN | apply below_drew1 | refine below_set ?_ GE622.out | refine below_set ?_ GE623.out) | exact HB.out)) : p := h
theorem z8_9 {p : Prop} (h : p := by repeat (first | (with_reducible first | exact HB.out | apply below_alloc | apply pw_below_drewN | apply below_drew1 | refine below_set ?_ GE622.out | refine below_set ?_ GE623.out | refine below_set ?_ GE628.out) | exact HB.out)) : p := h
theorem z8_10 {p : Prop} (h : p := by (with_reducible repeat (first | refine blk_drewN ?_ _ | refine blk_drew ?_ | refine blk_alloc ?_ _)); refine blk_far ?_ NB622_633.out _; (with_reducible repeat (first | refine blk_drewN ?_ _ | refine blk_drew ?_ | refine blk_alloc ?_ _)); exact BK622.out) : p := h
theorem z8_11 {p : Prop} (h : p := by (with_reducible repeat (first | refine blk_drewN ?_ _ | refine blk_drew ?_ | refine blk_alloc ?_ _)); refine blk_far ?_ NB623_633.out _; (with_reducible repeat (first | refine blk_drewN ?_ _ | refine blk_drew ?_ | refine blk_alloc ?_ _)); exact BK623.out) : p := h
theorem z8_12 {p : Prop} (h : p := by (with_reducible repeat (first | refine blk_drewN ?_ _ | refine blk_drew ?_ | refine blk_alloc ?_ _)); refine blk_far ?_ NB628_633.out _; (with_reducible repeat (first | refine blk_drewN ?_ _ | refine blk_drew ?_ | refine blk_alloc ?_ _)); exact BK628.out) : p := h
theorem z8_13 {p : Prop} (h : p := by repeat (first | (with_reducible first | exact HB.out | apply below_alloc | apply pw_below_drewN | apply below_drew1 | refine below_set ?_ GE622.out | refine below_set ?_ GE623.out | refine below_set ?_ GE628.out | refine below_set ?_ GE633.out) | exact HB.out)) : p := h
theorem z8_14 {p : Prop} (h : p := by (with_reducible repeat (first | refine blk_drewN ?_ _ | refine blk_drew ?_ | refine blk_alloc ?_ _)); refine blk_put (cs := #[.slice none 0 0]) ?_ 0 _ rfl; (with_reducible repeat (first | refine blk_drewN ?_ _ | refine blk_drew ?_ | refine blk_alloc ?_ _)); exact BK633.out) : p := h
/-! ### laws_FnTurnBeside: function 8 -/
def laws_FnTurnBeside.j0 : Nat → Bool → Bool → Bool → List (List (S85)) → List (List (S85)) → List (List (S85)) → List (List (S85)) → Option (Bool)
  | 0, _, _, _, _, _, _, _ => none
  | k + 1, x6, x8, x42, x623000, x624000, x629000, x634000 => if x42 = true then (if (x8 == x6) = true then ((laws_lpProg.f k x634000 x629000).bind fun t635 => (some t635)) else (some false)) else ((impl_ProgReads.f k x634000).bind fun t636 => ((impl_ProgReads.f k x623000).bind fun t637 => ((impl_ProgReads.f k x624000).bind fun t638 => (if t636 = (wrap64 (t637 + t638)) then (if 0 ≤ (x623000.length : Int) then (if (x623000.length : Int) ≤ (x634000.length : Int) then ((laws_lpProg.f k (x634000.take ((x623000.length : Int) : Int).toNat) x623000).bind fun t643 => (if t643 = true then ((laws_lpProg.f k (x634000.drop ((x623000.length : Int) : Int).toNat) x624000).bind fun t648 => (some t648)) else (some false))) else (none)) else (none)) else (some false)))))
def laws_FnTurnBeside.f (k : Nat) (l0 : List Int) : Option (Bool) := if (l0.length : Int) > 1048576 then (some true) else ((spec_DrawTurnBeside.f k l0).bind fun bt616 => ((spec_TurnBeside.f k bt616.1 bt616.2).bind fun bt624 => ((impl_TurnBeside.f k bt616.1 bt616.2).bind fun bt629 => (if (bt629.2 != bt624.2) = true then (laws_FnTurnBeside.j0 k bt624.2 bt629.2 true bt616.1 bt616.2 bt624.1 bt629.1) else ((laws_lpProg.f k bt629.1 bt624.1).bind fun t634 => (if t634 = true then (laws_FnTurnBeside.j0 k bt624.2 bt629.2 (!bt629.2) bt616.1 bt616.2 bt624.1 bt629.1) else (laws_FnTurnBeside.j0 k bt624.2 bt629.2 true bt616.1 bt616.2 bt624.1 bt629.1)))))))
theorem laws_FnTurnBeside.mono_l : ∀ k, (∀ y0 y1 y2 y3 y4 y5 y6, LeO (laws_FnTurnBeside.j0 k y0 y1 y2 y3 y4 y5 y6) (laws_FnTurnBeside.j0 (k + 1) y0 y1 y2 y3 y4 y5 y6))
  | 0 => fun _ _ _ _ _ _ _ r h => by simp [laws_FnTurnBeside.j0] at h
  | k + 1 => by
    have ih0 := laws_FnTurnBeside.mono_l k
    · intro y0 y1 y2 y3 y4 y5 y6
      unfold laws_FnTurnBeside.j0
      repeat' first
      | (with_reducible exact ih0 _ _ _ _ _ _ _)
      | (with_reducible exact impl_ProgReads.mono _ _)
      | (with_reducible exact impl_TurnBeside.mono _ _ _)
      | (with_reducible exact laws_lpProg.mono _ _ _)
      | (with_reducible exact spec_DrawTurnBeside.mono _ _)
      | (with_reducible exact spec_TurnBeside.mono _ _ _)
      | (with_reducible exact LeO.refl _)
      | (with_reducible exact LeO.none _)
      | (with_reducible refine LeO.ite ?_ ?_)
      | (with_reducible refine LeO.bind ?_ (fun _ => ?_))
      | exact ih0 _ _ _ _ _ _ _
      | exact impl_ProgReads.mono _ _
      | exact impl_TurnBeside.mono _ _ _
      | exact laws_lpProg.mono _ _ _
      | exact spec_DrawTurnBeside.mono _ _
      | exact spec_TurnBeside.mono _ _ _
      | exact LeO.none _
      | refine LeO.ite ?_ ?_
      | refine LeO.bind ?_ (fun _ => ?_)
theorem laws_FnTurnBeside.mono : ∀ a0 k, LeO (laws_FnTurnBeside.f k a0) (laws_FnTurnBeside.f (k + 1) a0) := by
  intro a0 k
  have ih0 := laws_FnTurnBeside.mono_l k
  unfold laws_FnTurnBeside.f
  repeat' first
      | (with_reducible exact ih0 _ _ _ _ _ _ _)
      | (with_reducible exact impl_ProgReads.mono _ _)
      | (with_reducible exact impl_TurnBeside.mono _ _ _)
      | (with_reducible exact laws_lpProg.mono _ _ _)
      | (with_reducible exact spec_DrawTurnBeside.mono _ _)
      | (with_reducible exact spec_TurnBeside.mono _ _ _)
      | (with_reducible exact LeO.refl _)
      | (with_reducible exact LeO.none _)
      | (with_reducible refine LeO.ite ?_ ?_)
      | (with_reducible refine LeO.bind ?_ (fun _ => ?_))
      | exact ih0 _ _ _ _ _ _ _
      | exact impl_ProgReads.mono _ _
      | exact impl_TurnBeside.mono _ _ _
      | exact laws_lpProg.mono _ _ _
      | exact spec_DrawTurnBeside.mono _ _
      | exact spec_TurnBeside.mono _ _ _
      | exact LeO.none _
      | refine LeO.ite ?_ ?_
      | refine LeO.bind ?_ (fun _ => ?_)
def laws_FnTurnBeside.T9 : Bool × List (List Nat × List Nat) := (true, [([], []), ([0], [0]), ([], []), ([2, 1], [2]), ([], []), ([4, 3], [4]), ([3, 5], [3, 5]), ([1, 6], [1, 6]), ([7, 5], [7]), ([8], [8]), ([9, 8], [8, 9]), ([8], [8]), ([10, 11, 8], [8, 10, 11]), ([12, 8], [8, 12]), ([8], [8]), ([13, 14, 8, 8], [8, 13, 14]), ([8, 15], [8, 15]), ([16, 15], [16]), ([17], [17]), ([18, 17], [17, 18]), ([17], [17]), ([19, 20, 17], [17, 19, 20]), ([21, 17], [17, 21]), ([17], [17]), ([22, 23, 17, 17], [17, 22, 23]), ([17, 24], [17, 24]), ([25, 24, 0, 1, 2, 3, 4, 5, 6, 7, 8, 9, 10, 11, 12, 13, 14, 15, 16, 17, 18, 19, 20, 21, 22, 23, 24, 25], [25])])
def laws_FnTurnBeside.B9 : List Nat := [0, 1, 0, 7, 0, 31, 63, 127, 255, 511, 1023, 511, 4095, 8191, 511, 32767, 65535, 131071, 262143, 524287, 262143, 2097151, 4194303, 262143, 16777215, 33554431, 67108863]
theorem laws_FnTurnBeside.tab9 : rtab .any (opsOf Try.f8 9) = laws_FnTurnBeside.T9 := by kernel_rfl
theorem laws_FnTurnBeside.bits9 : waitsOk laws_FnTurnBeside.T9.2 laws_FnTurnBeside.B9 = true := by kernel_rfl
set_option maxHeartbeats 8000000 in
set_option maxRecDepth 100000 in
theorem laws_FnTurnBeside.calls (k : Nat) (A0 : Option Addr) (c0 : Nat) (l0 : List Int) (r : Bool) (w : World) (hr0 : Kd.C (Kd.int .u8) w A0 l0.length l0) (hc0 : l0.length ≤ c0) (h : laws_FnTurnBeside.f k l0 = some r) :
  Calls Try.prog 8 #[.slice A0 l0.length c0] w fun e w' => e = .returned (.bool r) ∧ Below w.heap.size w w' := by
 have hu35 := Try.underlying35
 have HR0 := am_ hr0
 have HC0 := am_ hc0
 clear hr0 hc0
 have HB := am_ (Below.refl w.heap.size w)
 have H : (if (l0.length : Int) > 1048576 then (some true) else ((spec_DrawTurnBeside.f k l0).bind fun bt616 => ((spec_TurnBeside.f k bt616.1 bt616.2).bind fun bt624 => ((impl_TurnBeside.f k bt616.1 bt616.2).bind fun bt629 => (if (bt629.2 != bt624.2) = true then (laws_FnTurnBeside.j0 k bt624.2 bt629.2 true bt616.1 bt616.2 bt624.1 bt629.1) else ((laws_lpProg.f k bt629.1 bt624.1).bind fun t634 => (if t634 = true then (laws_FnTurnBeside.j0 k bt624.2 bt629.2 (!bt629.2) bt616.1 bt616.2 bt624.1 bt629.1) else (laws_FnTurnBeside.j0 k bt624.2 bt629.2 true bt616.1 bt616.2 bt624.1 bt629.1)))))))) = some r := h
 clear h
 by_cases c2 : (l0.length : Int) > 1048576
 ·rw [if_pos c2] at H
  have c2b0 : decide (1048576 < (l0.length : Int)) = true := decide_eq_true c2
  have c2b1 : decide (1048576 < l0.length) = true := decide_eq_true (by omega)
  clear c2
  obtain rfl := Option.some.inj H
  go_enter Try.func8, Try.ntmps8
  go_wp2
  go_ret
  exact ⟨z8_3, z8_4⟩
 ·rw [if_neg c2] at H
  have c2b0 : decide (1048576 < (l0.length : Int)) = false := decide_eq_false c2
  have c2b1 : decide (1048576 < l0.length) = false := decide_eq_false (by omega)
  clear c2
  replace H := Option.bind_eq_some_iff.mp H
  obtain ⟨⟨t616, t619⟩, A30, H⟩ := H
  replace H : ((spec_TurnBeside.f k t616 t619).bind fun bt624 => ((impl_TurnBeside.f k t616 t619).bind fun bt629 => (if (bt629.2 != bt624.2) = true then (laws_FnTurnBeside.j0 k bt624.2 bt629.2 true t616 t619 bt624.1 bt629.1) else ((laws_lpProg.f k bt629.1 bt624.1).bind fun t634 => (if t634 = true then (laws_FnTurnBeside.j0 k bt624.2 bt629.2 (!bt629.2) t616 t619 bt624.1 bt629.1) else (laws_FnTurnBeside.j0 k bt624.2 bt629.2 true t616 t619 bt624.1 bt629.1)))))) = some r := H
  have A3 := am_ A30
  clear A30
  replace H := Option.bind_eq_some_iff.mp H
  obtain ⟨⟨t624, t627⟩, A40, H⟩ := H
  replace H : ((impl_TurnBeside.f k t616 t619).bind fun bt629 => (if (bt629.2 != t627) = true then (laws_FnTurnBeside.j0 k t627 bt629.2 true t616 t619 t624 bt629.1) else ((laws_lpProg.f k bt629.1 t624).bind fun t634 => (if t634 = true then (laws_FnTurnBeside.j0 k t627 bt629.2 (!bt629.2) t616 t619 t624 bt629.1) else (laws_FnTurnBeside.j0 k t627 bt629.2 true t616 t619 t624 bt629.1))))) = some r := H
  have A4 := am_ A40
  clear A40
  replace H := Option.bind_eq_some_iff.mp H
  obtain ⟨⟨t629, t632⟩, A50, H⟩ := H
  replace H : (if (t632 != t627) = true then (laws_FnTurnBeside.j0 k t627 t632 true t616 t619 t624 t629) else ((laws_lpProg.f k t629 t624).bind fun t634 => (if t634 = true then (laws_FnTurnBeside.j0 k t627 t632 (!t632) t616 t619 t624 t629) else (laws_FnTurnBeside.j0 k t627 t632 true t616 t619 t624 t629)))) = some r := H
  have A5 := am_ A50
  clear A50
  have HC6 := am_ H
  clear H
  go_enter Try.func8, Try.ntmps8
  go_upto_region 6 with (first | ((with_reducible refine gate_callee (f := 37) rfl ?_); refine goesL_ (some 15) rfl rfl Try.func37 (by kernel_rfl) rfl #[.slice A0 l0.length c0] rfl (by (try simp only [List.map_toArray, List.map_cons, List.map_nil]); first | done | rfl | (simp only [List.length_drop, List.length_take]; rfl)) ?_; (with_reducible refine (spec_DrawTurnBeside.calls k _ _ l0 t616 t619 _ ?side1 ?side2 A3.out).mono ?_); (case side1 => repeat (first | exact HR0.out | (with_reducible refine Kd.C_alloc ?_ _) | (with_reducible refine Kd.C_drewN ?_ _) | (with_reducible refine Kd.C_drew ?_))); (case side2 => exact HC0.out); rintro e w7 ⟨v617, v620, rfl, ho0, ho1, hb⟩; refine ⟨_, rfl, ?_⟩; have n0_ := am_ (Kd.S_lower ho0 (below_size z8_4)); have n1_ := am_ (Kd.S_lower ho1 (below_size z8_4)); have n2_ := am_ (below_step z8_4 hb); clear HB; have HO618 := n0_; have HO621 := n1_; have HB := n2_; clear n0_ n1_ n2_; (try clear hb); (try clear hb2); (try clear hk); (try clear hi); (try clear ho0); (try clear ho1)) | ((with_reducible refine gate_dst (N := 3) rfl ?_); refine box_event ?hg (N := 3) ?hd (cs := #[.slice none 0 0]) (t := 35) ?hr ?_; (case hd => rfl); (case hg => rfl); (case hr => first | (go_simp; done) | (go_simp; rfl)); intro gb622 hg w8 hbox hb; have n0_ := am_ (Kd.S_below (su HO618.out) hb); have n1_ := am_ (Kd.S_below (su HO621.out) hb); have n2_ := am_ (below_step z8_4 hb); have n3_ := am_ (hbox); have n4_ := am_ (by rw [hg]; exact (below_size z8_4) : w.heap.size ≤ gb622); have n5_ := am_ (by rw [hg]; exact (below_size z8_4) : w.heap.size ≤ gb622); clear HO618 HO621 HB; have HO618 := n0_; have HO621 := n1_; have HB := n2_; have BK622 := n3_; have GW622 := n4_; have GE622 := n5_; clear n0_ n1_ n2_ n3_ n4_ n5_; clear hb hbox hg) | ((with_reducible refine gate_dst (N := 4) rfl ?_); refine box_event ?hg (N := 4) ?hd (cs := #[.slice none 0 0]) (t := 35) ?hr ?_; (case hd => rfl); (case hg => rfl); (case hr => first | (go_simp; done) | (go_simp; rfl)); intro gb623 hg w9 hbox hb; have n0_ := am_ (Kd.S_below (su HO618.out) hb); have n1_ := am_ (Kd.S_below (su HO621.out) hb); have n2_ := am_ (blk_below (bu BK622.out) hb); have n3_ := am_ (below_step z8_5 hb); have n4_ := am_ (hbox); have n5_ := am_ (by rw [hg]; exact (below_size z8_5) : w.heap.size ≤ gb623); have n6_ := am_ (by rw [hg]; exact (below_size z8_5) : w.heap.size ≤ gb623); have n7_ := am_ (by rw [hg]; exact Nat.ne_of_lt (blk_lt (bu BK622.out)) : gb622 ≠ gb623); have n8_ := am_ (by rw [hg]; exact Nat.ne_of_gt (blk_lt (bu BK622.out)) : gb623 ≠ gb622); clear HO618 HO621 BK622 HB; have HO618 := n0_; have HO621 := n1_; have BK622 := n2_; have HB := n3_; have BK623 := n4_; have GW623 := n5_; have GE623 := n6_; have NB622_623 := n7_; have NB623_622 := n8_; clear n0_ n1_ n2_ n3_ n4_ n5_ n6_ n7_ n8_; clear hb hbox hg; obtain ⟨Ao10, co10, eo10⟩ := Kd.S_slice HO618.out; subst eo10; have hnb11 := NB622_623.out; have hnc11 := NB623_622.out; have hcz12_0 : w9.cell? ⟨gb622, 0, none⟩ = some (.slice none 0 0) := (blk_cell BK622.out 0).trans rfl; have hfz12_0 := blk_frozen BK622.out 0; obtain ⟨Ao13, co13, eo13⟩ := Kd.S_slice HO621.out; subst eo13; have hcz14_0 : w9.cell? ⟨gb623, 0, none⟩ = some (.slice none 0 0) := (blk_cell BK623.out 0).trans rfl; have hfz14_0 := blk_frozen BK623.out 0) | ((with_reducible refine gate_callee (f := 38) rfl ?_); refine goesL_ (some 21) rfl rfl Try.func38 (by kernel_rfl) rfl #[.agg #[.slice Ao10 t616.length co10], .agg #[.slice Ao13 t619.length co13]] rfl (by (try simp only [List.map_toArray, List.map_cons, List.map_nil]); first | done | rfl | (simp only [List.length_drop, List.length_take]; rfl)) ?_; (with_reducible refine (spec_TurnBeside.calls k _ _ t616 _ _ t619 t624 t627 _ ?side1 ?side2 ?side3 ?side4 A4.out).mono ?_); (case side1 => refine (Kd.S_reads' (e := 82) (base := w.heap.size) (ok := fun k_ => some k_ ≠ (.slice Ao13 t619.length co13 : Value).ownBlock) (n := t616.length) (c := co10) ?_).2.2; exact (su (Kd.S_mono (Kd.S_mono (Kd.S_far (p := ⟨gb623, 0, none⟩) (Kd.S_far (p := ⟨gb622, 0, none⟩) (Kd.S_types (Kd.S_types HO618.out BK622.out (by decide)) BK623.out (by decide)) (fun _ hk => hk.1.2) (.slice Ao10 t616.length co10)) (fun _ hk => hk.2) (.slice Ao13 t619.length co13)) (fun _ h_ => h_.1)) (fun _ h_ => h_.1)))); (case side2 => exact (Kd.S_reads' HO618.out).2.1); (case side3 => refine (Kd.S_reads' (e := 82) (base := w.heap.size) (ok := fun k_ => some k_ ≠ (.slice Ao10 t616.length co10 : Value).ownBlock) (n := t619.length) (c := co13) ?_).2.2; exact (su (Kd.S_mono (Kd.S_mono (Kd.S_far (p := ⟨gb623, 0, none⟩) (Kd.S_far (p := ⟨gb622, 0, none⟩) (Kd.S_types (Kd.S_types HO621.out BK622.out (by decide)) BK623.out (by decide)) (fun _ hk => hk.1.2) (.slice Ao10 t616.length co10)) (fun _ hk => hk.2) (.slice Ao13 t619.length co13)) (fun _ h_ => h_.1)) (fun _ h_ => h_.1)))); (case side4 => exact (Kd.S_reads' HO621.out).2.1); rintro e w15 ⟨v625, rfl, ho0, hb⟩; refine ⟨_, rfl, ?_⟩; have n0_ := am_ (Kd.S_elder' (su (Kd.S_mono (Kd.S_mono (Kd.S_far (p := ⟨gb623, 0, none⟩) (Kd.S_far (p := ⟨gb622, 0, none⟩) (Kd.S_types (Kd.S_types HO618.out BK622.out (by decide)) BK623.out (by decide)) (fun _ hk => hk.1.2) (.slice Ao10 t616.length co10)) (fun _ hk => hk.2) (.slice Ao13 t619.length co13)) (fun _ h_ => h_.1)) (fun _ h_ => h_.1))) (Kd.S_base ho0) hb); have n1_ := am_ (Kd.S_elder' (su (Kd.S_mono (Kd.S_mono (Kd.S_far (p := ⟨gb623, 0, none⟩) (Kd.S_far (p := ⟨gb622, 0, none⟩) (Kd.S_types (Kd.S_types HO621.out BK622.out (by decide)) BK623.out (by decide)) (fun _ hk => hk.1.2) (.slice Ao10 t616.length co10)) (fun _ hk => hk.2) (.slice Ao13 t619.length co13)) (fun _ h_ => h_.1)) (fun _ h_ => h_.1))) (Kd.S_base ho0) hb); have n2_ := am_ (Kd.S_lower (Kd.S_new' (Kd.S_new' ho0 (Kd.S_lt (su (Kd.S_mono (Kd.S_mono (Kd.S_far (p := ⟨gb623, 0, none⟩) (Kd.S_far (p := ⟨gb622, 0, none⟩) (Kd.S_types (Kd.S_types HO618.out BK622.out (by decide)) BK623.out (by decide)) (fun _ hk => hk.1.2) (.slice Ao10 t616.length co10)) (fun _ hk => hk.2) (.slice Ao13 t619.length co13)) (fun _ h_ => h_.1)) (fun _ h_ => h_.1))))) (Kd.S_lt (su (Kd.S_mono (Kd.S_mono (Kd.S_far (p := ⟨gb623, 0, none⟩) (Kd.S_far (p := ⟨gb622, 0, none⟩) (Kd.S_types (Kd.S_types HO621.out BK622.out (by decide)) BK623.out (by decide)) (fun _ hk => hk.1.2) (.slice Ao10 t616.length co10)) (fun _ hk => hk.2) (.slice Ao13 t619.length co13)) (fun _ h_ => h_.1)) (fun _ h_ => h_.1))))) (below_size z8_8)); have n3_ := am_ (blk_below (g := gb622) (o := .cells #[.slice Ao10 t616.length co10] 35 (0, 0)) (by (with_reducible repeat (first | refine blk_drewN ?_ _ | refine blk_drew ?_ | refine blk_alloc ?_ _)); refine blk_far ?_ NB622_623.out _; (with_reducible repeat (first | refine blk_drewN ?_ _ | refine blk_drew ?_ | refine blk_alloc ?_ _)); refine blk_put (cs := #[.slice none 0 0]) ?_ 0 _ rfl; (with_reducible repeat (first | refine blk_drewN ?_ _ | refine blk_drew ?_ | refine blk_alloc ?_ _)); exact BK622.out) hb); have n4_ := am_ (blk_below (g := gb623) (o := .cells #[.slice Ao13 t619.length co13] 35 (0, 0)) (by (with_reducible repeat (first | refine blk_drewN ?_ _ | refine blk_drew ?_ | refine blk_alloc ?_ _)); refine blk_put (cs := #[.slice none 0 0]) ?_ 0 _ rfl; (with_reducible repeat (first | refine blk_drewN ?_ _ | refine blk_drew ?_ | refine blk_alloc ?_ _)); refine blk_far ?_ NB623_622.out _; (with_reducible repeat (first | refine blk_drewN ?_ _ | refine blk_drew ?_ | refine blk_alloc ?_ _)); exact BK623.out) hb); have n5_ := am_ (below_step z8_8 hb); clear HO618 HO621 BK622 BK623 HB; have HO618 := n0_; have HO621 := n1_; have HO626 := n2_; have BK622 := n3_; have BK623 := n4_; have HB := n5_; clear n0_ n1_ n2_ n3_ n4_ n5_; (try clear hb); (try clear hb2); (try clear hk); (try clear hi); (try clear ho0)) | ((with_reducible refine gate_dst (N := 5) rfl ?_); refine box_event ?hg (N := 5) ?hd (cs := #[.slice none 0 0]) (t := 35) ?hr ?_; (case hd => rfl); (case hg => rfl); (case hr => first | (go_simp; done) | (go_simp; rfl)); intro gb628 hg w16 hbox hb; have n0_ := am_ (Kd.S_below (su HO618.out) hb); have n1_ := am_ (Kd.S_below (su HO621.out) hb); have n2_ := am_ (Kd.S_below (su HO626.out) hb); have n3_ := am_ (blk_below (bu BK622.out) hb); have n4_ := am_ (blk_below (bu BK623.out) hb); have n5_ := am_ (below_step z8_8 hb); have n6_ := am_ (hbox); have n7_ := am_ (by rw [hg]; exact (below_size z8_8) : w.heap.size ≤ gb628); have n8_ := am_ (by rw [hg]; exact (below_size z8_8) : w.heap.size ≤ gb628); have n9_ := am_ (by rw [hg]; exact Nat.ne_of_lt (blk_lt (bu BK622.out)) : gb622 ≠ gb628); have n10_ := am_ (by rw [hg]; exact Nat.ne_of_gt (blk_lt (bu BK622.out)) : gb628 ≠ gb622); have n11_ := am_ (by rw [hg]; exact Nat.ne_of_lt (blk_lt (bu BK623.out)) : gb623 ≠ gb628); have n12_ := am_ (by rw [hg]; exact Nat.ne_of_gt (blk_lt (bu BK623.out)) : gb628 ≠ gb623); clear HO618 HO621 HO626 BK622 BK623 HB; have HO618 := n0_; have HO621 := n1_; have HO626 := n2_; have BK622 := n3_; have BK623 := n4_; have HB := n5_; have BK628 := n6_; have GW628 := n7_; have GE628 := n8_; have NB622_628 := n9_; have NB628_622 := n10_; have NB623_628 := n11_; have NB628_623 := n12_; clear n0_ n1_ n2_ n3_ n4_ n5_ n6_ n7_ n8_ n9_ n10_ n11_ n12_; clear hb hbox hg; obtain ⟨Ao17, co17, eo17⟩ := Kd.S_slice HO626.out; subst eo17; have hnb18 := NB628_622.out; have hnc18 := NB622_628.out; have hnb19 := NB628_623.out; have hnc19 := NB623_628.out; have hcz20_0 : w16.cell? ⟨gb628, 0, none⟩ = some (.slice none 0 0) := (blk_cell BK628.out 0).trans rfl; have hfz20_0 := blk_frozen BK628.out 0; have hcz21_0 : w16.cell? ⟨gb622, 0, none⟩ = some (.slice Ao10 t616.length co10) := (blk_cell BK622.out 0).trans rfl; have hfz21_0 := blk_frozen BK622.out 0; have hcz22_0 : w16.cell? ⟨gb623, 0, none⟩ = some (.slice Ao13 t619.length co13) := (blk_cell BK623.out 0).trans rfl; have hfz22_0 := blk_frozen BK623.out 0) | ((with_reducible refine gate_callee (f := 39) rfl ?_); refine goesL_ (some 27) rfl rfl Try.func39 (by kernel_rfl) rfl #[.agg #[.slice Ao10 t616.length co10], .agg #[.slice Ao13 t619.length co13]] rfl (by (try simp only [List.map_toArray, List.map_cons, List.map_nil]); first | done | rfl | (simp only [List.length_drop, List.length_take]; rfl)) ?_; (with_reducible refine (impl_TurnBeside.calls k _ _ t616 _ _ t619 t629 t632 _ ?side1 ?side2 ?side3 ?side4 A5.out).mono ?_); (case side1 => refine (Kd.S_reads' (e := 82) (base := w.heap.size) (ok := fun k_ => (some k_ ≠ (.slice Ao13 t619.length co13 : Value).ownBlock ∧ some k_ ≠ (.slice Ao17 t624.length co17 : Value).ownBlock)) (n := t616.length) (c := co10) ?_).2.2; exact (su (Kd.S_mono (Kd.S_far (p := ⟨gb628, 0, none⟩) (Kd.S_types HO618.out BK628.out (by decide)) (fun _ hk => hk.2) (.slice Ao17 t624.length co17)) (fun _ h_ => h_.1)))); (case side2 => exact (Kd.S_reads' HO618.out).2.1); (case side3 => refine (Kd.S_reads' (e := 82) (base := w.heap.size) (ok := fun k_ => (some k_ ≠ (.slice Ao10 t616.length co10 : Value).ownBlock ∧ some k_ ≠ (.slice Ao17 t624.length co17 : Value).ownBlock)) (n := t619.length) (c := co13) ?_).2.2; exact (su (Kd.S_mono (Kd.S_far (p := ⟨gb628, 0, none⟩) (Kd.S_types HO621.out BK628.out (by decide)) (fun _ hk => hk.2) (.slice Ao17 t624.length co17)) (fun _ h_ => h_.1)))); (case side4 => exact (Kd.S_reads' HO621.out).2.1); rintro e w23 ⟨v630, rfl, ho0, hb⟩; refine ⟨_, rfl, ?_⟩; have n0_ := am_ (Kd.S_elder' (su (Kd.S_mono (Kd.S_far (p := ⟨gb628, 0, none⟩) (Kd.S_types HO618.out BK628.out (by decide)) (fun _ hk => hk.2) (.slice Ao17 t624.length co17)) (fun _ h_ => h_.1))) (Kd.S_base ho0) hb); have n1_ := am_ (Kd.S_elder' (su (Kd.S_mono (Kd.S_far (p := ⟨gb628, 0, none⟩) (Kd.S_types HO621.out BK628.out (by decide)) (fun _ hk => hk.2) (.slice Ao17 t624.length co17)) (fun _ h_ => h_.1))) (Kd.S_base ho0) hb); have n2_ := am_ (Kd.S_elder' (su (Kd.S_mono (Kd.S_far (p := ⟨gb628, 0, none⟩) (Kd.S_types HO626.out BK628.out (by decide)) (fun _ hk => hk.2) (.slice Ao17 t624.length co17)) (fun _ h_ => h_.1))) (Kd.S_base ho0) hb); have n3_ := am_ (Kd.S_lower (Kd.S_new' (Kd.S_new' (Kd.S_new' ho0 (Kd.S_lt (su (Kd.S_mono (Kd.S_far (p := ⟨gb628, 0, none⟩) (Kd.S_types HO618.out BK628.out (by decide)) (fun _ hk => hk.2) (.slice Ao17 t624.length co17)) (fun _ h_ => h_.1))))) (Kd.S_lt (su (Kd.S_mono (Kd.S_far (p := ⟨gb628, 0, none⟩) (Kd.S_types HO621.out BK628.out (by decide)) (fun _ hk => hk.2) (.slice Ao17 t624.length co17)) (fun _ h_ => h_.1))))) (Kd.S_lt (su (Kd.S_mono (Kd.S_far (p := ⟨gb628, 0, none⟩) (Kd.S_types HO626.out BK628.out (by decide)) (fun _ hk => hk.2) (.slice Ao17 t624.length co17)) (fun _ h_ => h_.1))))) (below_size z8_9)); have n4_ := am_ (blk_below (g := gb622) (o := .cells #[.slice Ao10 t616.length co10] 35 (0, 0)) (by (with_reducible repeat (first | refine blk_drewN ?_ _ | refine blk_drew ?_ | refine blk_alloc ?_ _)); refine blk_far ?_ NB622_628.out _; (with_reducible repeat (first | refine blk_drewN ?_ _ | refine blk_drew ?_ | refine blk_alloc ?_ _)); exact BK622.out) hb); have n5_ := am_ (blk_below (g := gb623) (o := .cells #[.slice Ao13 t619.length co13] 35 (0, 0)) (by (with_reducible repeat (first | refine blk_drewN ?_ _ | refine blk_drew ?_ | refine blk_alloc ?_ _)); refine blk_far ?_ NB623_628.out _; (with_reducible repeat (first | refine blk_drewN ?_ _ | refine blk_drew ?_ | refine blk_alloc ?_ _)); exact BK623.out) hb); have n6_ := am_ (blk_below (g := gb628) (o := .cells #[.slice Ao17 t624.length co17] 35 (0, 0)) (by (with_reducible repeat (first | refine blk_drewN ?_ _ | refine blk_drew ?_ | refine blk_alloc ?_ _)); refine blk_put (cs := #[.slice none 0 0]) ?_ 0 _ rfl; (with_reducible repeat (first | refine blk_drewN ?_ _ | refine blk_drew ?_ | refine blk_alloc ?_ _)); exact BK628.out) hb); have n7_ := am_ (below_step z8_9 hb); clear HO618 HO621 HO626 BK622 BK623 BK628 HB; have HO618 := n0_; have HO621 := n1_; have HO626 := n2_; have HO631 := n3_; have BK622 := n4_; have BK623 := n5_; have BK628 := n6_; have HB := n7_; clear n0_ n1_ n2_ n3_ n4_ n5_ n6_ n7_; (try clear hb); (try clear hb2); (try clear hk); (try clear hi); (try clear ho0)) | ((with_reducible refine gate_dst (N := 7) rfl ?_); refine box_event ?hg (N := 7) ?hd (cs := #[.slice none 0 0]) (t := 35) ?hr ?_; (case hd => rfl); (case hg => rfl); (case hr => first | (go_simp; done) | (go_simp; rfl)); intro gb633 hg w24 hbox hb; have n0_ := am_ (Kd.S_below (su HO618.out) hb); have n1_ := am_ (Kd.S_below (su HO621.out) hb); have n2_ := am_ (Kd.S_below (su HO626.out) hb); have n3_ := am_ (Kd.S_below (su HO631.out) hb); have n4_ := am_ (blk_below (bu BK622.out) hb); have n5_ := am_ (blk_below (bu BK623.out) hb); have n6_ := am_ (blk_below (bu BK628.out) hb); have n7_ := am_ (below_step z8_9 hb); have n8_ := am_ (hbox); have n9_ := am_ (by rw [hg]; exact (below_size z8_9) : w.heap.size ≤ gb633); have n10_ := am_ (by rw [hg]; exact (below_size z8_9) : w.heap.size ≤ gb633); have n11_ := am_ (by rw [hg]; exact Nat.ne_of_lt (blk_lt (bu BK622.out)) : gb622 ≠ gb633); have n12_ := am_ (by rw [hg]; exact Nat.ne_of_gt (blk_lt (bu BK622.out)) : gb633 ≠ gb622); have n13_ := am_ (by rw [hg]; exact Nat.ne_of_lt (blk_lt (bu BK623.out)) : gb623 ≠ gb633); have n14_ := am_ (by rw [hg]; exact Nat.ne_of_gt (blk_lt (bu BK623.out)) : gb633 ≠ gb623); have n15_ := am_ (by rw [hg]; exact Nat.ne_of_lt (blk_lt (bu BK628.out)) : gb628 ≠ gb633); have n16_ := am_ (by rw [hg]; exact Nat.ne_of_gt (blk_lt (bu BK628.out)) : gb633 ≠ gb628); clear HO618 HO621 HO626 HO631 BK622 BK623 BK628 HB; have HO618 := n0_; have HO621 := n1_; have HO626 := n2_; have HO631 := n3_; have BK622 := n4_; have BK623 := n5_; have BK628 := n6_; have HB := n7_; have BK633 := n8_; have GW633 := n9_; have GE633 := n10_; have NB622_633 := n11_; have NB633_622 := n12_; have NB623_633 := n13_; have NB633_623 := n14_; have NB628_633 := n15_; have NB633_628 := n16_; clear n0_ n1_ n2_ n3_ n4_ n5_ n6_ n7_ n8_ n9_ n10_ n11_ n12_ n13_ n14_ n15_ n16_; clear hb hbox hg; obtain ⟨Ao25, co25, eo25⟩ := Kd.S_slice HO631.out; subst eo25; have hnb26 := NB633_622.out; have hnc26 := NB622_633.out; have hnb27 := NB633_623.out; have hnc27 := NB623_633.out; have hnb28 := NB633_628.out; have hnc28 := NB628_633.out; have hcz29_0 : w24.cell? ⟨gb633, 0, none⟩ = some (.slice none 0 0) := (blk_cell BK633.out 0).trans rfl; have hfz29_0 := blk_frozen BK633.out 0))
  (try simp only [Act.put, List.setIfInBounds_toArray, List.set_cons_zero, List.set_cons_succ])
  go_cut [42] (fun v42 wc => ∃ (kq : Nat) (x42_5 : Bool), v42 = .bool x42_5 ∧ Aside0 (laws_FnTurnBeside.j0 kq t627 t632 x42_5 t616 t619 t624 t629 = some r) ∧ Aside0 (kq ≤ k) ∧ Aside0 (Kd.S (Kd.slice 85 k85) 82 wc w.heap.size (fun k_ => some k_ ≠ ((.slice Ao13 t619.length co13) : Value).ownBlock ∧ some k_ ≠ ((.slice Ao17 t624.length co17) : Value).ownBlock ∧ some k_ ≠ ((.slice Ao25 t629.length co25) : Value).ownBlock) (.slice Ao10 t616.length co10) t616) ∧ Aside0 (Kd.S (Kd.slice 85 k85) 82 wc w.heap.size (fun k_ => some k_ ≠ ((.slice Ao10 t616.length co10) : Value).ownBlock ∧ some k_ ≠ ((.slice Ao17 t624.length co17) : Value).ownBlock ∧ some k_ ≠ ((.slice Ao25 t629.length co25) : Value).ownBlock) (.slice Ao13 t619.length co13) t619) ∧ Aside0 (Kd.S (Kd.slice 85 k85) 82 wc w.heap.size (fun k_ => some k_ ≠ ((.slice Ao10 t616.length co10) : Value).ownBlock ∧ some k_ ≠ ((.slice Ao13 t619.length co13) : Value).ownBlock ∧ some k_ ≠ ((.slice Ao25 t629.length co25) : Value).ownBlock) (.slice Ao17 t624.length co17) t624) ∧ Aside0 (Kd.S (Kd.slice 85 k85) 82 wc w.heap.size (fun k_ => some k_ ≠ ((.slice Ao10 t616.length co10) : Value).ownBlock ∧ some k_ ≠ ((.slice Ao13 t619.length co13) : Value).ownBlock ∧ some k_ ≠ ((.slice Ao17 t624.length co17) : Value).ownBlock) (.slice Ao25 t629.length co25) t629) ∧ Aside0 (wc.heap[gb622]? = some (.cells #[(.slice Ao10 t616.length co10)] 35 (0, 0))) ∧ Aside0 (wc.heap[gb623]? = some (.cells #[(.slice Ao13 t619.length co13)] 35 (0, 0))) ∧ Aside0 (wc.heap[gb628]? = some (.cells #[(.slice Ao17 t624.length co17)] 35 (0, 0))) ∧ Aside0 (wc.heap[gb633]? = some (.cells #[(.slice Ao25 t629.length co25)] 35 (0, 0))) ∧ Aside0 (Below w.heap.size w wc))
  case first =>
   have H := HC6.out
   clear HC6
   by_cases c30 : (t632 != t627) = true
   ·rw [if_pos c30] at H
    have c30b0 : (t632 != t627) = true := c30
    (try (have c30b1 : decide (t632 = t627) = false := by simpa using c30))
    (try (have c30b2 : (t632 == t627) = false := by simpa using c30))
    (try (have c30b3 : ¬ (t632 = t627) := by simpa using c30))
    clear c30
    (first | rw [c30b0] | (simp only [i64_w, i32_w]; rw [c30b0]) | skip)
    have H' := am_ H
    clear H
    go_wp2
    go_meet
    case rel => exact ⟨_, (true), z8_1, H', ⟨by first | omega | exact Nat.le_refl _⟩, ⟨su (Kd.S_mono (Kd.S_far (p := ⟨gb633, 0, none⟩) (Kd.S_types HO618.out BK633.out (by decide)) (fun _ hk => hk.2) (.slice Ao25 t629.length co25)) (fun _ hk => ⟨hk.1.1.1, ⟨hk.1.1.2, hk.1.2⟩⟩))⟩, ⟨su (Kd.S_mono (Kd.S_far (p := ⟨gb633, 0, none⟩) (Kd.S_types HO621.out BK633.out (by decide)) (fun _ hk => hk.2) (.slice Ao25 t629.length co25)) (fun _ hk => ⟨hk.1.1.1, ⟨hk.1.1.2, hk.1.2⟩⟩))⟩, ⟨su (Kd.S_mono (Kd.S_far (p := ⟨gb633, 0, none⟩) (Kd.S_types HO626.out BK633.out (by decide)) (fun _ hk => hk.2) (.slice Ao25 t629.length co25)) (fun _ hk => ⟨hk.1.1.1.2, ⟨hk.1.1.2, hk.1.2⟩⟩))⟩, ⟨su (Kd.S_mono (Kd.S_far (p := ⟨gb633, 0, none⟩) (Kd.S_types HO631.out BK633.out (by decide)) (fun _ hk => hk.2) (.slice Ao25 t629.length co25)) (fun _ hk => ⟨hk.1.1.1.2, ⟨hk.1.1.2, hk.1.2⟩⟩))⟩, ⟨z8_10⟩, ⟨z8_11⟩, ⟨z8_12⟩, ⟨z8_14⟩, ⟨z8_13⟩⟩
   ·rw [if_neg c30] at H
    have c30b0 : (t632 != t627) = false := by simpa using c30
    (try (have c30b1 : decide (t632 = t627) = true := by simpa using c30))
    (try (have c30b2 : (t632 == t627) = true := by simpa using c30))
    clear c30
    (first | rw [c30b0] | (simp only [i64_w, i32_w]; rw [c30b0]) | skip)
    replace H := Option.bind_eq_some_iff.mp H
    obtain ⟨t634, A310, H⟩ := H
    replace H : (if t634 = true then (laws_FnTurnBeside.j0 k t627 t632 (!t632) t616 t619 t624 t629) else (laws_FnTurnBeside.j0 k t627 t632 true t616 t619 t624 t629)) = some r := H
    have A31 := am_ A310
    clear A310
    by_cases c32 : t634 = true
    ·subst c32
     have H1 : (laws_FnTurnBeside.j0 k t627 t632 (!t632) t616 t619 t624 t629) = some r := by rw [if_pos rfl] at H; exact H
     clear H
     have H := H1
     clear H1
     have H' := am_ H
     clear H
     have hnb33 := NB633_622.out
     have hnc33 := NB622_633.out
     have hnb34 := NB633_623.out
     have hnc34 := NB623_633.out
     have hnb35 := NB633_628.out
     have hnc35 := NB628_633.out
     have hcz36_0 : w24.cell? ⟨gb633, 0, none⟩ = some (.slice none 0 0) := (blk_cell BK633.out 0).trans rfl
     have hfz36_0 := blk_frozen BK633.out 0
     have hnb37 := NB628_622.out
     have hnc37 := NB622_628.out
     have hnb38 := NB628_623.out
     have hnc38 := NB623_628.out
     have hcz39_0 : w24.cell? ⟨gb628, 0, none⟩ = some (.slice Ao17 t624.length co17) := (blk_cell BK628.out 0).trans rfl
     have hfz39_0 := blk_frozen BK628.out 0
     go_wp2_with (first | (go_at_call 30; (with_reducible refine (laws_lpProg.calls k _ _ t629 _ _ t624 true _ ?side1 ?side2 ?side3 ?side4 A31.out).mono ?_); (case side1 => refine (Kd.S_reads' (e := 82) (base := w.heap.size) (ok := fun k_ => (((True ∧ some k_ ≠ (.slice Ao10 t616.length co10 : Value).ownBlock) ∧ some k_ ≠ (.slice Ao13 t619.length co13 : Value).ownBlock) ∧ some k_ ≠ (.slice Ao17 t624.length co17 : Value).ownBlock)) (n := t629.length) (c := co25) ?_).2.2; exact (su (Kd.S_mono (Kd.S_far (p := ⟨gb633, 0, none⟩) (Kd.S_types HO631.out BK633.out (by decide)) (fun _ hk => hk.2) (.slice Ao25 t629.length co25)) (fun _ h_ => h_.1)))); (case side2 => exact (Kd.S_reads' HO631.out).2.1); (case side3 => refine (Kd.S_reads' (e := 82) (base := w.heap.size) (ok := fun k_ => (((True ∧ some k_ ≠ (.slice Ao10 t616.length co10 : Value).ownBlock) ∧ some k_ ≠ (.slice Ao13 t619.length co13 : Value).ownBlock) ∧ some k_ ≠ (.slice Ao25 t629.length co25 : Value).ownBlock)) (n := t624.length) (c := co17) ?_).2.2; exact (su (Kd.S_mono (Kd.S_far (p := ⟨gb633, 0, none⟩) (Kd.S_types HO626.out BK633.out (by decide)) (fun _ hk => hk.2) (.slice Ao25 t629.length co25)) (fun _ h_ => h_.1)))); (case side4 => exact (Kd.S_reads' HO626.out).2.1); rintro e w40 ⟨rfl, hb⟩; have n0_ := am_ (Kd.S_below (su (Kd.S_mono (Kd.S_far (p := ⟨gb633, 0, none⟩) (Kd.S_types HO618.out BK633.out (by decide)) (fun _ hk => hk.2) (.slice Ao25 t629.length co25)) (fun _ h_ => h_.1))) hb); have n1_ := am_ (Kd.S_below (su (Kd.S_mono (Kd.S_far (p := ⟨gb633, 0, none⟩) (Kd.S_types HO621.out BK633.out (by decide)) (fun _ hk => hk.2) (.slice Ao25 t629.length co25)) (fun _ h_ => h_.1))) hb); have n2_ := am_ (Kd.S_below (su (Kd.S_mono (Kd.S_far (p := ⟨gb633, 0, none⟩) (Kd.S_types HO626.out BK633.out (by decide)) (fun _ hk => hk.2) (.slice Ao25 t629.length co25)) (fun _ h_ => h_.1))) hb); have n3_ := am_ (Kd.S_below (su (Kd.S_mono (Kd.S_far (p := ⟨gb633, 0, none⟩) (Kd.S_types HO631.out BK633.out (by decide)) (fun _ hk => hk.2) (.slice Ao25 t629.length co25)) (fun _ h_ => h_.1))) hb); have n4_ := am_ (blk_below (g := gb622) (o := .cells #[.slice Ao10 t616.length co10] 35 (0, 0)) z8_10 hb); have n5_ := am_ (blk_below (g := gb623) (o := .cells #[.slice Ao13 t619.length co13] 35 (0, 0)) z8_11 hb); have n6_ := am_ (blk_below (g := gb628) (o := .cells #[.slice Ao17 t624.length co17] 35 (0, 0)) z8_12 hb); have n7_ := am_ (blk_below (g := gb633) (o := .cells #[.slice Ao25 t629.length co25] 35 (0, 0)) z8_14 hb); have n8_ := am_ (below_step z8_13 hb); clear HO618 HO621 HO626 HO631 BK622 BK623 BK628 BK633 HB; have HO618 := n0_; have HO621 := n1_; have HO626 := n2_; have HO631 := n3_; have BK622 := n4_; have BK623 := n5_; have BK628 := n6_; have BK633 := n7_; have HB := n8_; clear n0_ n1_ n2_ n3_ n4_ n5_ n6_ n7_ n8_; (try clear hb); (try clear hb2); (try clear hk); (try clear hi)))
     go_meet
     case rel => exact ⟨_, (!t632), z8_1, H', ⟨by first | omega | exact Nat.le_refl _⟩, ⟨su (Kd.S_mono HO618.out (fun _ hk => ⟨hk.1.1, ⟨hk.1.2, hk.2⟩⟩))⟩, ⟨su (Kd.S_mono HO621.out (fun _ hk => ⟨hk.1.1, ⟨hk.1.2, hk.2⟩⟩))⟩, ⟨su (Kd.S_mono HO626.out (fun _ hk => ⟨hk.1.1.2, ⟨hk.1.2, hk.2⟩⟩))⟩, ⟨su (Kd.S_mono HO631.out (fun _ hk => ⟨hk.1.1.2, ⟨hk.1.2, hk.2⟩⟩))⟩, ⟨bu BK622.out⟩, ⟨bu BK623.out⟩, ⟨bu BK628.out⟩, ⟨bu BK633.out⟩, ⟨z8_13⟩⟩
    ·replace c32 := Bool.eq_false_iff.mpr c32
     subst c32
     have H1 : (laws_FnTurnBeside.j0 k t627 t632 true t616 t619 t624 t629) = some r := by rw [if_neg (show ¬ (false = true) by decide)] at H; exact H
     clear H
     have H := H1
     clear H1
     have H' := am_ H
     clear H
     have hnb41 := NB633_622.out
     have hnc41 := NB622_633.out
     have hnb42 := NB633_623.out
     have hnc42 := NB623_633.out
     have hnb43 := NB633_628.out
     have hnc43 := NB628_633.out
     have hcz44_0 : w24.cell? ⟨gb633, 0, none⟩ = some (.slice none 0 0) := (blk_cell BK633.out 0).trans rfl
     have hfz44_0 := blk_frozen BK633.out 0
     have hnb45 := NB628_622.out
     have hnc45 := NB622_628.out
     have hnb46 := NB628_623.out
     have hnc46 := NB623_628.out
     have hcz47_0 : w24.cell? ⟨gb628, 0, none⟩ = some (.slice Ao17 t624.length co17) := (blk_cell BK628.out 0).trans rfl
     have hfz47_0 := blk_frozen BK628.out 0
     go_wp2_with (first | (go_at_call 30; (with_reducible refine (laws_lpProg.calls k _ _ t629 _ _ t624 false _ ?side1 ?side2 ?side3 ?side4 A31.out).mono ?_); (case side1 => refine (Kd.S_reads' (e := 82) (base := w.heap.size) (ok := fun k_ => (((True ∧ some k_ ≠ (.slice Ao10 t616.length co10 : Value).ownBlock) ∧ some k_ ≠ (.slice Ao13 t619.length co13 : Value).ownBlock) ∧ some k_ ≠ (.slice Ao17 t624.length co17 : Value).ownBlock)) (n := t629.length) (c := co25) ?_).2.2; exact (su (Kd.S_mono (Kd.S_far (p := ⟨gb633, 0, none⟩) (Kd.S_types HO631.out BK633.out (by decide)) (fun _ hk => hk.2) (.slice Ao25 t629.length co25)) (fun _ h_ => h_.1)))); (case side2 => exact (Kd.S_reads' HO631.out).2.1); (case side3 => refine (Kd.S_reads' (e := 82) (base := w.heap.size) (ok := fun k_ => (((True ∧ some k_ ≠ (.slice Ao10 t616.length co10 : Value).ownBlock) ∧ some k_ ≠ (.slice Ao13 t619.length co13 : Value).ownBlock) ∧ some k_ ≠ (.slice Ao25 t629.length co25 : Value).ownBlock)) (n := t624.length) (c := co17) ?_).2.2; exact (su (Kd.S_mono (Kd.S_far (p := ⟨gb633, 0, none⟩) (Kd.S_types HO626.out BK633.out (by decide)) (fun _ hk => hk.2) (.slice Ao25 t629.length co25)) (fun _ h_ => h_.1)))); (case side4 => exact (Kd.S_reads' HO626.out).2.1); rintro e w48 ⟨rfl, hb⟩; have n0_ := am_ (Kd.S_below (su (Kd.S_mono (Kd.S_far (p := ⟨gb633, 0, none⟩) (Kd.S_types HO618.out BK633.out (by decide)) (fun _ hk => hk.2) (.slice Ao25 t629.length co25)) (fun _ h_ => h_.1))) hb); have n1_ := am_ (Kd.S_below (su (Kd.S_mono (Kd.S_far (p := ⟨gb633, 0, none⟩) (Kd.S_types HO621.out BK633.out (by decide)) (fun _ hk => hk.2) (.slice Ao25 t629.length co25)) (fun _ h_ => h_.1))) hb); have n2_ := am_ (Kd.S_below (su (Kd.S_mono (Kd.S_far (p := ⟨gb633, 0, none⟩) (Kd.S_types HO626.out BK633.out (by decide)) (fun _ hk => hk.2) (.slice Ao25 t629.length co25)) (fun _ h_ => h_.1))) hb); have n3_ := am_ (Kd.S_below (su (Kd.S_mono (Kd.S_far (p := ⟨gb633, 0, none⟩) (Kd.S_types HO631.out BK633.out (by decide)) (fun _ hk => hk.2) (.slice Ao25 t629.length co25)) (fun _ h_ => h_.1))) hb); have n4_ := am_ (blk_below (g := gb622) (o := .cells #[.slice Ao10 t616.length co10] 35 (0, 0)) z8_10 hb); have n5_ := am_ (blk_below (g := gb623) (o := .cells #[.slice Ao13 t619.length co13] 35 (0, 0)) z8_11 hb); have n6_ := am_ (blk_below (g := gb628) (o := .cells #[.slice Ao17 t624.length co17] 35 (0, 0)) z8_12 hb); have n7_ := am_ (blk_below (g := gb633) (o := .cells #[.slice Ao25 t629.length co25] 35 (0, 0)) z8_14 hb); have n8_ := am_ (below_step z8_13 hb); clear HO618 HO621 HO626 HO631 BK622 BK623 BK628 BK633 HB; have HO618 := n0_; have HO621 := n1_; have HO626 := n2_; have HO631 := n3_; have BK622 := n4_; have BK623 := n5_; have BK628 := n6_; have BK633 := n7_; have HB := n8_; clear n0_ n1_ n2_ n3_ n4_ n5_ n6_ n7_ n8_; (try clear hb); (try clear hb2); (try clear hk); (try clear hi)))
     go_meet
     case rel => exact ⟨_, (true), z8_1, H', ⟨by first | omega | exact Nat.le_refl _⟩, ⟨su (Kd.S_mono HO618.out (fun _ hk => ⟨hk.1.1, ⟨hk.1.2, hk.2⟩⟩))⟩, ⟨su (Kd.S_mono HO621.out (fun _ hk => ⟨hk.1.1, ⟨hk.1.2, hk.2⟩⟩))⟩, ⟨su (Kd.S_mono HO626.out (fun _ hk => ⟨hk.1.1.2, ⟨hk.1.2, hk.2⟩⟩))⟩, ⟨su (Kd.S_mono HO631.out (fun _ hk => ⟨hk.1.1.2, ⟨hk.1.2, hk.2⟩⟩))⟩, ⟨bu BK622.out⟩, ⟨bu BK623.out⟩, ⟨bu BK628.out⟩, ⟨bu BK633.out⟩, ⟨z8_13⟩⟩
  case rest =>
   clear HC6
   obtain ⟨kq, x42_5, rfl, HA, HJ5, HO_623000, HO_624000, HO_629000, HO_634000, BK622, BK623, BK628, BK633, HB⟩ := hcut
   cases kq with
   | zero => exact absurd HA.out (by simp [laws_FnTurnBeside.j0])
   | succ kj5 =>
    have H := HA.out
    clear HA
    simp only [laws_FnTurnBeside.j0] at H
    by_cases c49 : x42_5 = true
    ·subst c49
     have H1 : (if (t632 == t627) = true then ((laws_lpProg.f kj5 t629 t624).bind fun t635 => (some t635)) else (some false)) = some r := by rw [if_pos rfl] at H; exact H
     clear H
     have H := H1
     clear H1
     by_cases c50 : (t632 == t627) = true
     ·rw [if_pos c50] at H
      have c50b0 : (t632 == t627) = true := c50
      (try (have c50b1 : decide (t632 = t627) = true := by simpa using c50))
      (try (have c50b2 : (t632 == t627) = true := by simpa using c50))
      clear c50
      replace H := Option.bind_eq_some_iff.mp H
      obtain ⟨t635, A510, H⟩ := H
      replace H : (some t635) = some r := H
      have A51 := am_ A510
      clear A510
      obtain rfl := Option.some.inj H
      have hnb52 := NB633_622.out
      have hnc52 := NB622_633.out
      have hnb53 := NB633_623.out
      have hnc53 := NB623_633.out
      have hnb54 := NB633_628.out
      have hnc54 := NB628_633.out
      have hcz55_0 : wc.cell? ⟨gb633, 0, none⟩ = some (.slice Ao25 t629.length co25) := (blk_cell BK633.out 0).trans rfl
      have hfz55_0 := blk_frozen BK633.out 0
      have hnb56 := NB628_622.out
      have hnc56 := NB622_628.out
      have hnb57 := NB628_623.out
      have hnc57 := NB623_628.out
      have hcz58_0 : wc.cell? ⟨gb628, 0, none⟩ = some (.slice Ao17 t624.length co17) := (blk_cell BK628.out 0).trans rfl
      have hfz58_0 := blk_frozen BK628.out 0
      go_wp2_with (first | (go_at_call 30; (with_reducible refine (laws_lpProg.calls kj5 _ _ t629 _ _ t624 t635 _ ?side1 ?side2 ?side3 ?side4 A51.out).mono ?_); (case side1 => repeat (first | exact (Kd.S_reads' HO_634000.out).2.2 | (with_reducible refine Kd.C_alloc ?_ _) | (with_reducible refine Kd.C_drewN ?_ _) | (with_reducible refine Kd.C_drew ?_))); (case side2 => exact (Kd.S_reads' HO_634000.out).2.1); (case side3 => repeat (first | exact (Kd.S_reads' HO_629000.out).2.2 | (with_reducible refine Kd.C_alloc ?_ _) | (with_reducible refine Kd.C_drewN ?_ _) | (with_reducible refine Kd.C_drew ?_))); (case side4 => exact (Kd.S_reads' HO_629000.out).2.1); rintro e w59 ⟨rfl, hb⟩; have n0_ := am_ (Kd.S_below (su HO_623000.out) hb); have n1_ := am_ (Kd.S_below (su HO_624000.out) hb); have n2_ := am_ (Kd.S_below (su HO_629000.out) hb); have n3_ := am_ (Kd.S_below (su HO_634000.out) hb); have n4_ := am_ (blk_below (bu BK622.out) hb); have n5_ := am_ (blk_below (bu BK623.out) hb); have n6_ := am_ (blk_below (bu BK628.out) hb); have n7_ := am_ (blk_below (bu BK633.out) hb); have n8_ := am_ (below_step z8_13 hb); clear HO_623000 HO_624000 HO_629000 HO_634000 BK622 BK623 BK628 BK633 HB; have HO_623000 := n0_; have HO_624000 := n1_; have HO_629000 := n2_; have HO_634000 := n3_; have BK622 := n4_; have BK623 := n5_; have BK628 := n6_; have BK633 := n7_; have HB := n8_; clear n0_ n1_ n2_ n3_ n4_ n5_ n6_ n7_ n8_; (try clear hb); (try clear hb2); (try clear hk); (try clear hi)))
      go_ret
      exact ⟨z8_3, z8_13⟩
     ·rw [if_neg c50] at H
      have c50b0 : (t632 == t627) = false := by simpa using c50
      (try (have c50b1 : decide (t632 = t627) = false := by simpa using c50))
      (try (have c50b2 : (t632 == t627) = false := by simpa using c50))
      (try (have c50b3 : ¬ (t632 = t627) := by simpa using c50))
      clear c50
      obtain rfl := Option.some.inj H
      go_wp2
      go_ret
      exact ⟨z8_3, z8_13⟩
    ·replace c49 := Bool.eq_false_iff.mpr c49
     subst c49
     have H1 : ((impl_ProgReads.f kj5 t629).bind fun t636 => ((impl_ProgReads.f kj5 t616).bind fun t637 => ((impl_ProgReads.f kj5 t619).bind fun t638 => (if t636 = (wrap64 (t637 + t638)) then (if 0 ≤ (t616.length : Int) then (if (t616.length : Int) ≤ (t629.length : Int) then ((laws_lpProg.f kj5 (t629.take ((t616.length : Int) : Int).toNat) t616).bind fun t643 => (if t643 = true then ((laws_lpProg.f kj5 (t629.drop ((t616.length : Int) : Int).toNat) t619).bind fun t648 => (some t648)) else (some false))) else (none)) else (none)) else (some false))))) = some r := by rw [if_neg (show ¬ (false = true) by decide)] at H; exact H
     clear H
     have H := H1
     clear H1
     replace H := Option.bind_eq_some_iff.mp H
     obtain ⟨t636, A600, H⟩ := H
     replace H : ((impl_ProgReads.f kj5 t616).bind fun t637 => ((impl_ProgReads.f kj5 t619).bind fun t638 => (if t636 = (wrap64 (t637 + t638)) then (if 0 ≤ (t616.length : Int) then (if (t616.length : Int) ≤ (t629.length : Int) then ((laws_lpProg.f kj5 (t629.take ((t616.length : Int) : Int).toNat) t616).bind fun t643 => (if t643 = true then ((laws_lpProg.f kj5 (t629.drop ((t616.length : Int) : Int).toNat) t619).bind fun t648 => (some t648)) else (some false))) else (none)) else (none)) else (some false)))) = some r := H
     have A60 := am_ A600
     clear A600
     replace H := Option.bind_eq_some_iff.mp H
     obtain ⟨t637, A610, H⟩ := H
     replace H : ((impl_ProgReads.f kj5 t619).bind fun t638 => (if t636 = (wrap64 (t637 + t638)) then (if 0 ≤ (t616.length : Int) then (if (t616.length : Int) ≤ (t629.length : Int) then ((laws_lpProg.f kj5 (t629.take ((t616.length : Int) : Int).toNat) t616).bind fun t643 => (if t643 = true then ((laws_lpProg.f kj5 (t629.drop ((t616.length : Int) : Int).toNat) t619).bind fun t648 => (some t648)) else (some false))) else (none)) else (none)) else (some false))) = some r := H
     have A61 := am_ A610
     clear A610
     replace H := Option.bind_eq_some_iff.mp H
     obtain ⟨t638, A620, H⟩ := H
     replace H : (if t636 = (wrap64 (t637 + t638)) then (if 0 ≤ (t616.length : Int) then (if (t616.length : Int) ≤ (t629.length : Int) then ((laws_lpProg.f kj5 (t629.take ((t616.length : Int) : Int).toNat) t616).bind fun t643 => (if t643 = true then ((laws_lpProg.f kj5 (t629.drop ((t616.length : Int) : Int).toNat) t619).bind fun t648 => (some t648)) else (some false))) else (none)) else (none)) else (some false)) = some r := H
     have A62 := am_ A620
     clear A620
     by_cases c63 : t636 = (wrap64 (t637 + t638))
     ·rw [if_pos c63] at H
      have c63b0 : (t636 == (wrap64 (t637 + t638))) = true := beq_iff_eq.mpr c63
      have c63b1 : (t636 != (wrap64 (t637 + t638))) = false := bne_eq_false_iff_eq.mpr c63
      clear c63
      by_cases c64 : 0 ≤ (t616.length : Int)
      ·rw [if_pos c64] at H
       have c64b0 := eq_true c64
       have c64b1 : decide (0 ≤ (t616.length : Int)) = true := decide_eq_true c64
       clear c64
       by_cases c65 : (t616.length : Int) ≤ (t629.length : Int)
       ·rw [if_pos c65] at H
        have c65b0 := eq_true c65
        have c65b1 : decide ((t616.length : Int) ≤ (t629.length : Int)) = true := decide_eq_true c65
        clear c65
        obtain ⟨y639, hy639⟩ : ∃ y_ : List (List (S85)), y_ = (t629.take ((t616.length : Int) : Int).toNat) := ⟨_, rfl⟩
        replace H : ((laws_lpProg.f kj5 y639 t616).bind fun t643 => (if t643 = true then ((laws_lpProg.f kj5 (t629.drop ((t616.length : Int) : Int).toNat) t619).bind fun t648 => (some t648)) else (some false))) = some r := by first | (rw [hy639]; with_reducible exact H) | (have H2_ := (Option.bind_some _ _).symm.trans H; rw [hy639]; with_reducible exact H2_) | (have H2_ := (Option.bind_some _ _).symm.trans H; with_reducible exact H2_) | with_reducible exact H | (rw [hy639]; exact H) | exact H
        have Ny639 := am_ hy639
        clear hy639
        replace H := Option.bind_eq_some_iff.mp H
        obtain ⟨t643, A660, H⟩ := H
        replace H : (if t643 = true then ((laws_lpProg.f kj5 (t629.drop ((t616.length : Int) : Int).toNat) t619).bind fun t648 => (some t648)) else (some false)) = some r := H
        have A66 := am_ A660
        clear A660
        by_cases c67 : t643 = true
        ·subst c67
         have H1 : ((laws_lpProg.f kj5 (t629.drop ((t616.length : Int) : Int).toNat) t619).bind fun t648 => (some t648)) = some r := by rw [if_pos rfl] at H; exact H
         clear H
         have H := H1
         clear H1
         have c68b0 := eq_true (of_decide_eq_true z8_2 : 0 ≤ (t616.length : Int))
         have c69b0 := eq_true (of_decide_eq_true z8_2 : (t616.length : Int) ≤ (t629.length : Int))
         obtain ⟨y644, hy644⟩ : ∃ y_ : List (List (S85)), y_ = (t629.drop ((t616.length : Int) : Int).toNat) := ⟨_, rfl⟩
         replace H : ((laws_lpProg.f kj5 y644 t619).bind fun t648 => (some t648)) = some r := by first | (rw [hy644]; with_reducible exact H) | (have H2_ := (Option.bind_some _ _).symm.trans H; rw [hy644]; with_reducible exact H2_) | (have H2_ := (Option.bind_some _ _).symm.trans H; with_reducible exact H2_) | with_reducible exact H | (rw [hy644]; exact H) | exact H
         have Ny644 := am_ hy644
         clear hy644
         replace H := Option.bind_eq_some_iff.mp H
         obtain ⟨t648, A700, H⟩ := H
         replace H : (some t648) = some r := H
         have A70 := am_ A700
         clear A700
         obtain rfl := Option.some.inj H
         have hnb71 := NB622_623.out
         have hnc71 := NB623_622.out
         have hnb72 := NB622_628.out
         have hnc72 := NB628_622.out
         have hnb73 := NB622_633.out
         have hnc73 := NB633_622.out
         have hcz74_0 : wc.cell? ⟨gb622, 0, none⟩ = some (.slice Ao10 t616.length co10) := (blk_cell BK622.out 0).trans rfl
         have hfz74_0 := blk_frozen BK622.out 0
         try go_wp2
         have n0_ := am_ (Kd.S_drew HO_623000.out)
         have n1_ := am_ (Kd.S_drew HO_624000.out)
         have n2_ := am_ (Kd.S_drew HO_629000.out)
         have n3_ := am_ (Kd.S_drew HO_634000.out)
         have n4_ := am_ (blk_drew BK622.out)
         have n5_ := am_ (blk_drew BK623.out)
         have n6_ := am_ (blk_drew BK628.out)
         have n7_ := am_ (blk_drew BK633.out)
         have n8_ := am_ (below_drew1 HB.out)
         clear HO_623000 HO_624000 HO_629000 HO_634000 BK622 BK623 BK628 BK633 HB
         have HO_623000 := n0_
         have HO_624000 := n1_
         have HO_629000 := n2_
         have HO_634000 := n3_
         have BK622 := n4_
         have BK623 := n5_
         have BK628 := n6_
         have BK633 := n7_
         have HB := n8_
         clear n0_ n1_ n2_ n3_ n4_ n5_ n6_ n7_ n8_
         refine start_ (n := 27) (S := fun w' => w'.cell? ⟨gb633, 0, none⟩ = some (.slice Ao25 t629.length co25) ∧ w'.cell? ⟨gb622, 0, none⟩ = some (.slice Ao10 t616.length co10) ∧ w'.cell? ⟨gb623, 0, none⟩ = some (.slice Ao13 t619.length co13)) (ds := []) #[false, false, false, false, false, false, false, false, false, false, false, false, false, false, false, false, false, false, false, false, false, false, false, false, false, false, false] (by kernel_rfl) rfl rfl ⟨(blk_cell BK633.out 0).trans rfl, (blk_cell BK622.out 0).trans rfl, (blk_cell BK623.out 0).trans rfl⟩ (fun hHeld => ?_); refine with_tabW laws_FnTurnBeside.tab9 laws_FnTurnBeside.bits9 (fun HT_ HW_ => ?_)
         generalize wc.drew = w75 at HO_623000 HO_624000 HO_629000 HO_634000 BK622 BK623 BK628 BK633 HB hHeld ⊢
         refine take_ (i := 0) (N := some 54) (v := ?_) (a' := ?_) #[true, false, false, false, false, false, false, false, false, false, false, false, false, false, false, false, false, false, false, false, false, false, false, false, false, false, false] rfl rfl (take_ofW HT_.out HW_.out (by kernel_rfl)) (fun _ _ _ h => h) (Or.inl ⟨by rfl, ?_⟩) hHeld ?_ ?_
         rotate_left
         ·rintro w' ⟨s0, s1, s2⟩
          go_simp
          with_reducible rfl
         rotate_left
         ·simp only [Act.put, List.setIfInBounds_toArray, List.set_cons_zero, List.set_cons_succ, i64_w, i32_w]
          rfl
         refine take_ (i := 2) (N := some 56) (v := ?_) (a' := ?_) #[true, false, true, false, false, false, false, false, false, false, false, false, false, false, false, false, false, false, false, false, false, false, false, false, false, false, false] rfl rfl (take_ofW HT_.out HW_.out (by kernel_rfl)) (fun _ _ _ h => h) (Or.inl ⟨by rfl, ?_⟩) hHeld ?_ ?_
         rotate_left
         ·rintro w' ⟨s0, s1, s2⟩
          go_simp
          with_reducible rfl
         rotate_left
         ·simp only [Act.put, List.setIfInBounds_toArray, List.set_cons_zero, List.set_cons_succ, i64_w, i32_w]
          rfl
         refine take_ (i := 4) (N := some 58) (v := ?_) (a' := ?_) #[true, false, true, false, true, false, false, false, false, false, false, false, false, false, false, false, false, false, false, false, false, false, false, false, false, false, false] rfl rfl (take_ofW HT_.out HW_.out (by kernel_rfl)) (fun _ _ _ h => h) (Or.inl ⟨by rfl, ?_⟩) hHeld ?_ ?_
         rotate_left
         ·rintro w' ⟨s0, s1, s2⟩
          go_simp
          with_reducible rfl
         rotate_left
         ·simp only [Act.put, List.setIfInBounds_toArray, List.set_cons_zero, List.set_cons_succ, i64_w, i32_w]
          rfl
         refine one_ (i := 1) (N := some 55) #[true, true, true, false, true, false, false, false, false, false, false, false, false, false, false, false, false, false, false, false, false, false, false, false, false, false, false] rfl rfl (one_of HT_.out (by kernel_rfl)) (by decide) (fun K hK => ?_)
         refine goes_ Try.func40 (by kernel_rfl) rfl #[.agg #[.slice Ao25 t629.length co25]] (by rfl) rfl rfl (by (try simp only [List.map_toArray, List.map_cons, List.map_nil]); first | done | rfl | (simp only [List.length_drop, List.length_take]; rfl)) ?_
         with_reducible refine (impl_ProgReads.calls kj5 _ _ t629 t636 _ ?side1 ?side2 A60.out).mono ?_
         (case side1 => repeat (first | exact (Kd.S_reads' HO_634000.out).2.2 | (with_reducible refine Kd.C_alloc ?_ _) | (with_reducible refine Kd.C_drewN ?_ _) | (with_reducible refine Kd.C_drew ?_)))
         (case side2 => exact (Kd.S_reads' HO_634000.out).2.1)
         rintro e w76 ⟨rfl, hb⟩
         refine ⟨_, rfl, ?_⟩
         have n0_ := am_ (Kd.S_below (su HO_623000.out) hb)
         have n1_ := am_ (Kd.S_below (su HO_624000.out) hb)
         have n2_ := am_ (Kd.S_below (su HO_629000.out) hb)
         have n3_ := am_ (Kd.S_below (su HO_634000.out) hb)
         have n4_ := am_ (blk_below (bu BK622.out) hb)
         have n5_ := am_ (blk_below (bu BK623.out) hb)
         have n6_ := am_ (blk_below (bu BK628.out) hb)
         have n7_ := am_ (blk_below (bu BK633.out) hb)
         have n8_ := am_ (below_step z8_13 hb)
         clear HO_623000 HO_624000 HO_629000 HO_634000 BK622 BK623 BK628 BK633 HB
         have HO_623000 := n0_
         have HO_624000 := n1_
         have HO_629000 := n2_
         have HO_634000 := n3_
         have BK622 := n4_
         have BK623 := n5_
         have BK628 := n6_
         have BK633 := n7_
         have HB := n8_
         clear n0_ n1_ n2_ n3_ n4_ n5_ n6_ n7_ n8_
         (try clear hb)
         (try clear hb2)
         (try clear hk)
         (try clear hi)
         refine hK.out _ _ ⟨(blk_cell BK633.out 0).trans rfl, (blk_cell BK622.out 0).trans rfl, (blk_cell BK623.out 0).trans rfl⟩ (fun hHeld => ?_)
         clear hK K
         refine norm_ (a' := ?_) ?_ ?_
         rotate_left
         ·show Act.put _ (some 55) _ = _
          simp only [Act.put, List.setIfInBounds_toArray, List.set_cons_zero, List.set_cons_succ, i64_w, i32_w]
          rfl
         refine one_ (i := 3) (N := some 57) #[true, true, true, true, true, false, false, false, false, false, false, false, false, false, false, false, false, false, false, false, false, false, false, false, false, false, false] rfl rfl (one_of HT_.out (by kernel_rfl)) (by decide) (fun K hK => ?_)
         refine goes_ Try.func40 (by kernel_rfl) rfl #[.agg #[.slice Ao10 t616.length co10]] (by rfl) rfl rfl (by (try simp only [List.map_toArray, List.map_cons, List.map_nil]); first | done | rfl | (simp only [List.length_drop, List.length_take]; rfl)) ?_
         with_reducible refine (impl_ProgReads.calls kj5 _ _ t616 t637 _ ?side1 ?side2 A61.out).mono ?_
         (case side1 => repeat (first | exact (Kd.S_reads' HO_623000.out).2.2 | (with_reducible refine Kd.C_alloc ?_ _) | (with_reducible refine Kd.C_drewN ?_ _) | (with_reducible refine Kd.C_drew ?_)))
         (case side2 => exact (Kd.S_reads' HO_623000.out).2.1)
         rintro e w77 ⟨rfl, hb⟩
         refine ⟨_, rfl, ?_⟩
         have n0_ := am_ (Kd.S_below (su HO_623000.out) hb)
         have n1_ := am_ (Kd.S_below (su HO_624000.out) hb)
         have n2_ := am_ (Kd.S_below (su HO_629000.out) hb)
         have n3_ := am_ (Kd.S_below (su HO_634000.out) hb)
         have n4_ := am_ (blk_below (bu BK622.out) hb)
         have n5_ := am_ (blk_below (bu BK623.out) hb)
         have n6_ := am_ (blk_below (bu BK628.out) hb)
         have n7_ := am_ (blk_below (bu BK633.out) hb)
         have n8_ := am_ (below_step z8_13 hb)
         clear HO_623000 HO_624000 HO_629000 HO_634000 BK622 BK623 BK628 BK633 HB
         have HO_623000 := n0_
         have HO_624000 := n1_
         have HO_629000 := n2_
         have HO_634000 := n3_
         have BK622 := n4_
         have BK623 := n5_
         have BK628 := n6_
         have BK633 := n7_
         have HB := n8_
         clear n0_ n1_ n2_ n3_ n4_ n5_ n6_ n7_ n8_
         (try clear hb)
         (try clear hb2)
         (try clear hk)
         (try clear hi)
         refine hK.out _ _ ⟨(blk_cell BK633.out 0).trans rfl, (blk_cell BK622.out 0).trans rfl, (blk_cell BK623.out 0).trans rfl⟩ (fun hHeld => ?_)
         clear hK K
         refine norm_ (a' := ?_) ?_ ?_
         rotate_left
         ·show Act.put _ (some 57) _ = _
          simp only [Act.put, List.setIfInBounds_toArray, List.set_cons_zero, List.set_cons_succ, i64_w, i32_w]
          rfl
         refine one_ (i := 5) (N := some 59) #[true, true, true, true, true, true, false, false, false, false, false, false, false, false, false, false, false, false, false, false, false, false, false, false, false, false, false] rfl rfl (one_of HT_.out (by kernel_rfl)) (by decide) (fun K hK => ?_)
         refine goes_ Try.func40 (by kernel_rfl) rfl #[.agg #[.slice Ao13 t619.length co13]] (by rfl) rfl rfl (by (try simp only [List.map_toArray, List.map_cons, List.map_nil]); first | done | rfl | (simp only [List.length_drop, List.length_take]; rfl)) ?_
         with_reducible refine (impl_ProgReads.calls kj5 _ _ t619 t638 _ ?side1 ?side2 A62.out).mono ?_
         (case side1 => repeat (first | exact (Kd.S_reads' HO_624000.out).2.2 | (with_reducible refine Kd.C_alloc ?_ _) | (with_reducible refine Kd.C_drewN ?_ _) | (with_reducible refine Kd.C_drew ?_)))
         (case side2 => exact (Kd.S_reads' HO_624000.out).2.1)
         rintro e w78 ⟨rfl, hb⟩
         refine ⟨_, rfl, ?_⟩
         have n0_ := am_ (Kd.S_below (su HO_623000.out) hb)
         have n1_ := am_ (Kd.S_below (su HO_624000.out) hb)
         have n2_ := am_ (Kd.S_below (su HO_629000.out) hb)
         have n3_ := am_ (Kd.S_below (su HO_634000.out) hb)
         have n4_ := am_ (blk_below (bu BK622.out) hb)
         have n5_ := am_ (blk_below (bu BK623.out) hb)
         have n6_ := am_ (blk_below (bu BK628.out) hb)
         have n7_ := am_ (blk_below (bu BK633.out) hb)
         have n8_ := am_ (below_step z8_13 hb)
         clear HO_623000 HO_624000 HO_629000 HO_634000 BK622 BK623 BK628 BK633 HB
         have HO_623000 := n0_
         have HO_624000 := n1_
         have HO_629000 := n2_
         have HO_634000 := n3_
         have BK622 := n4_
         have BK623 := n5_
         have BK628 := n6_
         have BK633 := n7_
         have HB := n8_
         clear n0_ n1_ n2_ n3_ n4_ n5_ n6_ n7_ n8_
         (try clear hb)
         (try clear hb2)
         (try clear hk)
         (try clear hi)
         have q79 : ((t616.length : Int) : Int) ≤ ((t629.length : Int) : Int) := of_decide_eq_true z8_2
         obtain ⟨i079, hi079, _, hsz79, _⟩ := info_parts info82
         have hroom79 : t629.length ≤ co25 := (Kd.S_reads' HO_634000.out).2.1
         have hC79 : Kd.C (Kd.slice 85 k85) _ Ao25 t629.length t629 := (Kd.S_reads' HO_634000.out).2.2
         have hcut79 := cut_to (P := Try.prog) 33 82 .i64 Try.underlying33 hi079 Ao25 t629.length co25 (t616.length : Int) (of_decide_eq_true z8_2) q79 hroom79
         have hr79 := Kd.C_take (m := ((t616.length : Int) : Int).toNat) hC79 (by omega)
         have hy79 : y639.length = ((t616.length : Int) : Int).toNat := (by rw [Ny639.out, List.length_take]; omega)
         rw [← Ny639.out] at hr79
         rw [← hy79] at hcut79
         have HR642 := am_ hr79
         have HC642 := am_ (show y639.length ≤ co25 from by omega)
         clear hr79 hC79 hroom79 hi079 hsz79
         have KY79 := am_ hy79
         clear hy79
         have KL79 := am_ (show ((t616.length : Int) : Int).toNat ≤ t629.length from by omega)
         replace q79 := eq_true q79
         refine hK.out _ _ ⟨(blk_cell BK633.out 0).trans rfl, (blk_cell BK622.out 0).trans rfl, (blk_cell BK623.out 0).trans rfl⟩ (fun hHeld => ?_)
         clear hK K
         refine norm_ (a' := ?_) ?_ ?_
         rotate_left
         ·show Act.put _ (some 59) _ = _
          simp only [Act.put, List.setIfInBounds_toArray, List.set_cons_zero, List.set_cons_succ, i64_w, i32_w]
          rfl
         refine pure_ (i := 6) (N := some 60) (v := ?_) (a' := ?_) #[true, true, true, true, true, true, true, false, false, false, false, false, false, false, false, false, false, false, false, false, false, false, false, false, false, false, false] rfl rfl (any_of HT_.out (by kernel_rfl)) (fun _ _ _ h => h) (Or.inl ⟨by rfl, ?_⟩) ?_ ?_
         rotate_left
         ·intro w'
          go_simp
          with_reducible rfl
         rotate_left
         ·simp only [Act.put, List.setIfInBounds_toArray, List.set_cons_zero, List.set_cons_succ, i64_w, i32_w]
          rfl
         refine pure_ (i := 7) (N := some 61) (v := ?_) (a' := ?_) #[true, true, true, true, true, true, true, true, false, false, false, false, false, false, false, false, false, false, false, false, false, false, false, false, false, false, false] rfl rfl (any_of HT_.out (by kernel_rfl)) (fun _ _ _ h => h) (Or.inl ⟨by rfl, ?_⟩) ?_ ?_
         rotate_left
         ·intro w'
          go_simp
          with_reducible rfl
         rotate_left
         ·simp only [Act.put, List.setIfInBounds_toArray, List.set_cons_zero, List.set_cons_succ, i64_w, i32_w]
          rfl
         refine pure_ (i := 8) (N := some 62) (v := ?_) (a' := ?_) #[true, true, true, true, true, true, true, true, true, false, false, false, false, false, false, false, false, false, false, false, false, false, false, false, false, false, false] rfl rfl (any_of HT_.out (by kernel_rfl)) (fun _ _ _ h => h) (Or.inl ⟨by rfl, ?_⟩) ?_ ?_
         rotate_left
         ·intro w'
          go_simp
          with_reducible rfl
         rotate_left
         ·simp only [Act.put, List.setIfInBounds_toArray, List.set_cons_zero, List.set_cons_succ, i64_w, i32_w]
          rfl
         refine pure_ (i := 9) (N := some 63) (v := ?_) (a' := ?_) #[true, true, true, true, true, true, true, true, true, true, false, false, false, false, false, false, false, false, false, false, false, false, false, false, false, false, false] rfl rfl (any_of HT_.out (by kernel_rfl)) (fun _ _ _ h => h) (Or.inl ⟨by rfl, ?_⟩) ?_ ?_
         rotate_left
         ·intro w'
          go_simp
          with_reducible rfl
         rotate_left
         ·simp only [Act.put, List.setIfInBounds_toArray, List.set_cons_zero, List.set_cons_succ, i64_w, i32_w]
          rfl
         refine pure_ (i := 11) (N := some 65) (v := ?_) (a' := ?_) #[true, true, true, true, true, true, true, true, true, true, false, true, false, false, false, false, false, false, false, false, false, false, false, false, false, false, false] rfl rfl (any_of HT_.out (by kernel_rfl)) (fun _ _ _ h => h) (Or.inl ⟨by rfl, ?_⟩) ?_ ?_
         rotate_left
         ·intro w'
          go_simp
          with_reducible rfl
         rotate_left
         ·simp only [Act.put, List.setIfInBounds_toArray, List.set_cons_zero, List.set_cons_succ, i64_w, i32_w]
          rfl
         refine take_ (i := 10) (N := some 64) (v := ?_) (a' := ?_) #[true, true, true, true, true, true, true, true, true, true, true, true, false, false, false, false, false, false, false, false, false, false, false, false, false, false, false] rfl rfl (take_ofW HT_.out HW_.out (by kernel_rfl)) (fun _ _ _ h => h) (Or.inl ⟨by rfl, ?_⟩) hHeld ?_ ?_
         rotate_left
         ·rintro w' ⟨s0, s1, s2⟩
          go_simp
          with_reducible rfl
         rotate_left
         ·simp only [Act.put, List.setIfInBounds_toArray, List.set_cons_zero, List.set_cons_succ, i64_w, i32_w]
          rfl
         refine pure_ (i := 12) (N := some 66) (v := ?_) (a' := ?_) #[true, true, true, true, true, true, true, true, true, true, true, true, true, false, false, false, false, false, false, false, false, false, false, false, false, false, false] rfl rfl (any_of HT_.out (by kernel_rfl)) (fun _ _ _ h => h) (Or.inl ⟨by rfl, ?_⟩) ?_ ?_
         rotate_left
         ·intro w'
          go_simp
          with_reducible rfl
         rotate_left
         ·simp only [Act.put, List.setIfInBounds_toArray, List.set_cons_zero, List.set_cons_succ, i64_w, i32_w]
          rfl
         refine pure_ (i := 13) (N := some 67) (v := ?_) (a' := ?_) #[true, true, true, true, true, true, true, true, true, true, true, true, true, true, false, false, false, false, false, false, false, false, false, false, false, false, false] rfl rfl (any_of HT_.out (by kernel_rfl)) (fun _ _ _ h => h) (Or.inl ⟨by rfl, ?_⟩) ?_ ?_
         rotate_left
         ·intro w'
          go_simp
          with_reducible rfl
         rotate_left
         ·simp only [Act.put, List.setIfInBounds_toArray, List.set_cons_zero, List.set_cons_succ, i64_w, i32_w]
          rfl
         refine take_ (i := 14) (N := some 68) (v := ?_) (a' := ?_) #[true, true, true, true, true, true, true, true, true, true, true, true, true, true, true, false, false, false, false, false, false, false, false, false, false, false, false] rfl rfl (take_ofW HT_.out HW_.out (by kernel_rfl)) (fun _ _ _ h => h) (Or.inl ⟨by rfl, ?_⟩) hHeld ?_ ?_
         rotate_left
         ·rintro w' ⟨s0, s1, s2⟩
          go_simp
          with_reducible rfl
         rotate_left
         ·simp only [Act.put, List.setIfInBounds_toArray, List.set_cons_zero, List.set_cons_succ, i64_w, i32_w]
          rfl
         refine one_ (i := 15) (N := some 69) #[true, true, true, true, true, true, true, true, true, true, true, true, true, true, true, true, false, false, false, false, false, false, false, false, false, false, false] rfl rfl (one_of HT_.out (by kernel_rfl)) (by decide) (fun K hK => ?_)
         refine goes_ Try.func30 (by kernel_rfl) rfl #[.agg #[.slice Ao25 y639.length co25], .agg #[.slice Ao10 t616.length co10]] (by rfl) rfl rfl (by (try simp only [List.map_toArray, List.map_cons, List.map_nil]); first | done | rfl | (simp only [List.length_drop, List.length_take]; rfl)) ?_
         with_reducible refine (laws_lpProg.calls kj5 _ _ y639 _ _ t616 true _ ?side1 ?side2 ?side3 ?side4 A66.out).mono ?_
         (case side1 => repeat (first | exact z8_6 | (with_reducible refine Kd.C_alloc ?_ _) | (with_reducible refine Kd.C_drewN ?_ _) | (with_reducible refine Kd.C_drew ?_)))
         (case side2 => exact HC642.out)
         (case side3 => repeat (first | exact (Kd.S_reads' HO_623000.out).2.2 | (with_reducible refine Kd.C_alloc ?_ _) | (with_reducible refine Kd.C_drewN ?_ _) | (with_reducible refine Kd.C_drew ?_)))
         (case side4 => exact (Kd.S_reads' HO_623000.out).2.1)
         rintro e w80 ⟨rfl, hb⟩
         refine ⟨_, rfl, ?_⟩
         have n0_ := am_ (Kd.S_below (su HO_623000.out) hb)
         have n1_ := am_ (Kd.S_below (su HO_624000.out) hb)
         have n2_ := am_ (Kd.S_below (su HO_629000.out) hb)
         have n3_ := am_ (Kd.S_below (su HO_634000.out) hb)
         have n4_ := am_ (blk_below (bu BK622.out) hb)
         have n5_ := am_ (blk_below (bu BK623.out) hb)
         have n6_ := am_ (blk_below (bu BK628.out) hb)
         have n7_ := am_ (blk_below (bu BK633.out) hb)
         have n8_ := am_ (Kd.C_below z8_6 hb)
         have n9_ := am_ (below_step z8_13 hb)
         clear HO_623000 HO_624000 HO_629000 HO_634000 BK622 BK623 BK628 BK633 HR642 HB
         have HO_623000 := n0_
         have HO_624000 := n1_
         have HO_629000 := n2_
         have HO_634000 := n3_
         have BK622 := n4_
         have BK623 := n5_
         have BK628 := n6_
         have BK633 := n7_
         have HR642 := n8_
         have HB := n9_
         clear n0_ n1_ n2_ n3_ n4_ n5_ n6_ n7_ n8_ n9_
         (try clear hb)
         (try clear hb2)
         (try clear hk)
         (try clear hi)
         have q81 : ((t616.length : Int) : Int) ≤ ((t629.length : Int) : Int) := of_decide_eq_true z8_2
         obtain ⟨i081, hi081, _, hsz81, _⟩ := info_parts info82
         have hroom81 : t629.length ≤ co25 := (Kd.S_reads' HO_634000.out).2.1
         have hC81 : Kd.C (Kd.slice 85 k85) _ Ao25 t629.length t629 := (Kd.S_reads' HO_634000.out).2.2
         have q081 : (0 : Int) ≤ ((t616.length : Int) : Int) := of_decide_eq_true z8_2
         have hcut81 := cut_from (P := Try.prog) 33 82 .i64 Try.underlying33 hi081 1 hsz81 Ao25 t629.length co25 (t616.length : Int) q081 q81
         have hr81 := Kd.C_drop (m := ((t616.length : Int) : Int).toNat) (c := co25) hC81 (by omega) hroom81
         obtain ⟨A81, hA81⟩ : ∃ A1, A1 = (if co25 = ((t616.length : Int) : Int).toNat then Ao25 else (Ao25 : Option Addr).map (·.add (((t616.length : Int) : Int).toNat * 1))) := ⟨_, rfl⟩
         obtain ⟨c81, hc81⟩ : ∃ c1, c1 = co25 - ((t616.length : Int) : Int).toNat := ⟨_, rfl⟩
         have hy81 : y644.length = t629.length - ((t616.length : Int) : Int).toNat := (by rw [Ny644.out, List.length_drop] <;> omega)
         rw [show (t629).drop ((t616.length : Int) : Int).toNat = y644 from Ny644.out.symm] at hr81
         replace hr81 : Kd.C (Kd.slice 85 k85) _ A81 y644.length y644 := (by rw [hA81]; exact hr81)
         rw [← hy81, ← hA81, ← hc81] at hcut81
         have HR647 := am_ hr81
         have HC647 := am_ (show y644.length ≤ c81 from by rw [hy81, hc81]; exact Nat.sub_le_sub_right hroom81 _)
         clear hr81 hC81 hroom81 hi081 hsz81 hc81
         have KY81 := am_ hy81
         have KA81 := am_ hA81
         clear hy81 hA81
         have KL81 := am_ (show ((t616.length : Int) : Int).toNat ≤ t629.length from by omega)
         replace q81 := eq_true q81
         refine hK.out _ _ ⟨(blk_cell BK633.out 0).trans rfl, (blk_cell BK622.out 0).trans rfl, (blk_cell BK623.out 0).trans rfl⟩ (fun hHeld => ?_)
         clear hK K
         refine norm_ (a' := ?_) ?_ ?_
         rotate_left
         ·show Act.put _ (some 69) _ = _
          simp only [Act.put, List.setIfInBounds_toArray, List.set_cons_zero, List.set_cons_succ, i64_w, i32_w]
          rfl
         refine pure_ (i := 16) (N := some 70) (v := ?_) (a' := ?_) #[true, true, true, true, true, true, true, true, true, true, true, true, true, true, true, true, true, false, false, false, false, false, false, false, false, false, false] rfl rfl (any_of HT_.out (by kernel_rfl)) (fun _ _ _ h => h) (Or.inl ⟨by rfl, ?_⟩) ?_ ?_
         rotate_left
         ·intro w'
          go_simp
          with_reducible rfl
         rotate_left
         ·simp only [Act.put, List.setIfInBounds_toArray, List.set_cons_zero, List.set_cons_succ, i64_w, i32_w]
          rfl
         refine pure_ (i := 17) (N := some 71) (v := ?_) (a' := ?_) #[true, true, true, true, true, true, true, true, true, true, true, true, true, true, true, true, true, true, false, false, false, false, false, false, false, false, false] rfl rfl (any_of HT_.out (by kernel_rfl)) (fun _ _ _ h => h) (Or.inl ⟨by rfl, ?_⟩) ?_ ?_
         rotate_left
         ·intro w'
          go_simp
          with_reducible rfl
         rotate_left
         ·simp only [Act.put, List.setIfInBounds_toArray, List.set_cons_zero, List.set_cons_succ, i64_w, i32_w]
          rfl
         refine pure_ (i := 18) (N := some 72) (v := ?_) (a' := ?_) #[true, true, true, true, true, true, true, true, true, true, true, true, true, true, true, true, true, true, true, false, false, false, false, false, false, false, false] rfl rfl (any_of HT_.out (by kernel_rfl)) (fun _ _ _ h => h) (Or.inl ⟨by rfl, ?_⟩) ?_ ?_
         rotate_left
         ·intro w'
          go_simp
          with_reducible rfl
         rotate_left
         ·simp only [Act.put, List.setIfInBounds_toArray, List.set_cons_zero, List.set_cons_succ, i64_w, i32_w]
          rfl
         refine pure_ (i := 20) (N := some 74) (v := ?_) (a' := ?_) #[true, true, true, true, true, true, true, true, true, true, true, true, true, true, true, true, true, true, true, false, true, false, false, false, false, false, false] rfl rfl (any_of HT_.out (by kernel_rfl)) (fun _ _ _ h => h) (Or.inl ⟨by rfl, ?_⟩) ?_ ?_
         rotate_left
         ·intro w'
          go_simp
          with_reducible rfl
         rotate_left
         ·simp only [Act.put, List.setIfInBounds_toArray, List.set_cons_zero, List.set_cons_succ, i64_w, i32_w]
          rfl
         refine take_ (i := 19) (N := some 73) (v := ?_) (a' := ?_) #[true, true, true, true, true, true, true, true, true, true, true, true, true, true, true, true, true, true, true, true, true, false, false, false, false, false, false] rfl rfl (take_ofW HT_.out HW_.out (by kernel_rfl)) (fun _ _ _ h => h) (Or.inl ⟨by rfl, ?_⟩) hHeld ?_ ?_
         rotate_left
         ·rintro w' ⟨s0, s1, s2⟩
          go_simp
          with_reducible rfl
         rotate_left
         ·simp only [Act.put, List.setIfInBounds_toArray, List.set_cons_zero, List.set_cons_succ, i64_w, i32_w]
          rfl
         refine pure_ (i := 21) (N := some 75) (v := ?_) (a' := ?_) #[true, true, true, true, true, true, true, true, true, true, true, true, true, true, true, true, true, true, true, true, true, true, false, false, false, false, false] rfl rfl (any_of HT_.out (by kernel_rfl)) (fun _ _ _ h => h) (Or.inl ⟨by rfl, ?_⟩) ?_ ?_
         rotate_left
         ·intro w'
          go_simp
          with_reducible rfl
         rotate_left
         ·simp only [Act.put, List.setIfInBounds_toArray, List.set_cons_zero, List.set_cons_succ, i64_w, i32_w]
          rfl
         refine pure_ (i := 22) (N := some 76) (v := ?_) (a' := ?_) #[true, true, true, true, true, true, true, true, true, true, true, true, true, true, true, true, true, true, true, true, true, true, true, false, false, false, false] rfl rfl (any_of HT_.out (by kernel_rfl)) (fun _ _ _ h => h) (Or.inl ⟨by rfl, ?_⟩) ?_ ?_
         rotate_left
         ·intro w'
          go_simp
          with_reducible rfl
         rotate_left
         ·simp only [Act.put, List.setIfInBounds_toArray, List.set_cons_zero, List.set_cons_succ, i64_w, i32_w]
          rfl
         refine take_ (i := 23) (N := some 77) (v := ?_) (a' := ?_) #[true, true, true, true, true, true, true, true, true, true, true, true, true, true, true, true, true, true, true, true, true, true, true, true, false, false, false] rfl rfl (take_ofW HT_.out HW_.out (by kernel_rfl)) (fun _ _ _ h => h) (Or.inl ⟨by rfl, ?_⟩) hHeld ?_ ?_
         rotate_left
         ·rintro w' ⟨s0, s1, s2⟩
          go_simp
          with_reducible rfl
         rotate_left
         ·simp only [Act.put, List.setIfInBounds_toArray, List.set_cons_zero, List.set_cons_succ, i64_w, i32_w]
          rfl
         refine one_ (i := 24) (N := some 78) #[true, true, true, true, true, true, true, true, true, true, true, true, true, true, true, true, true, true, true, true, true, true, true, true, true, false, false] rfl rfl (one_of HT_.out (by kernel_rfl)) (by decide) (fun K hK => ?_)
         refine goes_ Try.func30 (by kernel_rfl) rfl #[.agg #[.slice A81 y644.length c81], .agg #[.slice Ao13 t619.length co13]] (by rfl) rfl rfl (by (try simp only [List.map_toArray, List.map_cons, List.map_nil]); first | done | rfl | (simp only [List.length_drop, List.length_take]; rfl)) ?_
         with_reducible refine (laws_lpProg.calls kj5 _ _ y644 _ _ t619 t648 _ ?side1 ?side2 ?side3 ?side4 A70.out).mono ?_
         (case side1 => repeat (first | exact z8_7 | (with_reducible refine Kd.C_alloc ?_ _) | (with_reducible refine Kd.C_drewN ?_ _) | (with_reducible refine Kd.C_drew ?_)))
         (case side2 => exact HC647.out)
         (case side3 => repeat (first | exact (Kd.S_reads' HO_624000.out).2.2 | (with_reducible refine Kd.C_alloc ?_ _) | (with_reducible refine Kd.C_drewN ?_ _) | (with_reducible refine Kd.C_drew ?_)))
         (case side4 => exact (Kd.S_reads' HO_624000.out).2.1)
         rintro e w82 ⟨rfl, hb⟩
         refine ⟨_, rfl, ?_⟩
         have n0_ := am_ (Kd.S_below (su HO_623000.out) hb)
         have n1_ := am_ (Kd.S_below (su HO_624000.out) hb)
         have n2_ := am_ (Kd.S_below (su HO_629000.out) hb)
         have n3_ := am_ (Kd.S_below (su HO_634000.out) hb)
         have n4_ := am_ (blk_below (bu BK622.out) hb)
         have n5_ := am_ (blk_below (bu BK623.out) hb)
         have n6_ := am_ (blk_below (bu BK628.out) hb)
         have n7_ := am_ (blk_below (bu BK633.out) hb)
         have n8_ := am_ (Kd.C_below z8_6 hb)
         have n9_ := am_ (Kd.C_below z8_7 hb)
         have n10_ := am_ (below_step z8_13 hb)
         clear HO_623000 HO_624000 HO_629000 HO_634000 BK622 BK623 BK628 BK633 HR642 HR647 HB
         have HO_623000 := n0_
         have HO_624000 := n1_
         have HO_629000 := n2_
         have HO_634000 := n3_
         have BK622 := n4_
         have BK623 := n5_
         have BK628 := n6_
         have BK633 := n7_
         have HR642 := n8_
         have HR647 := n9_
         have HB := n10_
         clear n0_ n1_ n2_ n3_ n4_ n5_ n6_ n7_ n8_ n9_ n10_
         (try clear hb)
         (try clear hb2)
         (try clear hk)
         (try clear hi)
         refine hK.out _ _ ⟨(blk_cell BK633.out 0).trans rfl, (blk_cell BK622.out 0).trans rfl, (blk_cell BK623.out 0).trans rfl⟩ (fun hHeld => ?_)
         clear hK K
         refine norm_ (a' := ?_) ?_ ?_
         rotate_left
         ·show Act.put _ (some 78) _ = _
          simp only [Act.put, List.setIfInBounds_toArray, List.set_cons_zero, List.set_cons_succ, i64_w, i32_w]
          rfl
         refine pure_ (i := 25) (N := some 79) (v := ?_) (a' := ?_) #[true, true, true, true, true, true, true, true, true, true, true, true, true, true, true, true, true, true, true, true, true, true, true, true, true, true, false] rfl rfl (any_of HT_.out (by kernel_rfl)) (fun _ _ _ h => h) (Or.inl ⟨by rfl, ?_⟩) ?_ ?_
         rotate_left
         ·intro w'
          go_simp
          with_reducible rfl
         rotate_left
         ·simp only [Act.put, List.setIfInBounds_toArray, List.set_cons_zero, List.set_cons_succ, i64_w, i32_w]
          rfl
         refine pure_ (i := 26) (N := some 2) (v := ?_) (a' := ?_) #[true, true, true, true, true, true, true, true, true, true, true, true, true, true, true, true, true, true, true, true, true, true, true, true, true, true, true] rfl rfl (any_of HT_.out (by kernel_rfl)) (fun _ _ _ h => h) (Or.inl ⟨by rfl, ?_⟩) ?_ ?_
         rotate_left
         ·intro w'
          go_simp
          with_reducible rfl
         rotate_left
         ·simp only [Act.put, List.setIfInBounds_toArray, List.set_cons_zero, List.set_cons_succ, i64_w, i32_w]
          rfl
         refine done_ (done_of HT_.out (by kernel_rfl)) ?_
         try go_wp2
         go_ret
         exact ⟨z8_3, z8_13⟩
        ·replace c67 := Bool.eq_false_iff.mpr c67
         subst c67
         have H1 : (some false) = some r := by rw [if_neg (show ¬ (false = true) by decide)] at H; exact H
         clear H
         have H := H1
         clear H1
         obtain rfl := Option.some.inj H
         have hnb83 := NB622_623.out
         have hnc83 := NB623_622.out
         have hnb84 := NB622_628.out
         have hnc84 := NB628_622.out
         have hnb85 := NB622_633.out
         have hnc85 := NB633_622.out
         have hcz86_0 : wc.cell? ⟨gb622, 0, none⟩ = some (.slice Ao10 t616.length co10) := (blk_cell BK622.out 0).trans rfl
         have hfz86_0 := blk_frozen BK622.out 0
         try go_wp2
         have n0_ := am_ (Kd.S_drew HO_623000.out)
         have n1_ := am_ (Kd.S_drew HO_624000.out)
         have n2_ := am_ (Kd.S_drew HO_629000.out)
         have n3_ := am_ (Kd.S_drew HO_634000.out)
         have n4_ := am_ (blk_drew BK622.out)
         have n5_ := am_ (blk_drew BK623.out)
         have n6_ := am_ (blk_drew BK628.out)
         have n7_ := am_ (blk_drew BK633.out)
         have n8_ := am_ (below_drew1 HB.out)
         clear HO_623000 HO_624000 HO_629000 HO_634000 BK622 BK623 BK628 BK633 HB
         have HO_623000 := n0_
         have HO_624000 := n1_
         have HO_629000 := n2_
         have HO_634000 := n3_
         have BK622 := n4_
         have BK623 := n5_
         have BK628 := n6_
         have BK633 := n7_
         have HB := n8_
         clear n0_ n1_ n2_ n3_ n4_ n5_ n6_ n7_ n8_
         refine start_ (n := 27) (S := fun w' => w'.cell? ⟨gb633, 0, none⟩ = some (.slice Ao25 t629.length co25) ∧ w'.cell? ⟨gb622, 0, none⟩ = some (.slice Ao10 t616.length co10) ∧ w'.cell? ⟨gb623, 0, none⟩ = some (.slice Ao13 t619.length co13)) (ds := []) #[false, false, false, false, false, false, false, false, false, false, false, false, false, false, false, false, false, false, false, false, false, false, false, false, false, false, false] (by kernel_rfl) rfl rfl ⟨(blk_cell BK633.out 0).trans rfl, (blk_cell BK622.out 0).trans rfl, (blk_cell BK623.out 0).trans rfl⟩ (fun hHeld => ?_); refine with_tabW laws_FnTurnBeside.tab9 laws_FnTurnBeside.bits9 (fun HT_ HW_ => ?_)
         generalize wc.drew = w87 at HO_623000 HO_624000 HO_629000 HO_634000 BK622 BK623 BK628 BK633 HB hHeld ⊢
         refine take_ (i := 0) (N := some 54) (v := ?_) (a' := ?_) #[true, false, false, false, false, false, false, false, false, false, false, false, false, false, false, false, false, false, false, false, false, false, false, false, false, false, false] rfl rfl (take_ofW HT_.out HW_.out (by kernel_rfl)) (fun _ _ _ h => h) (Or.inl ⟨by rfl, ?_⟩) hHeld ?_ ?_
         rotate_left
         ·rintro w' ⟨s0, s1, s2⟩
          go_simp
          with_reducible rfl
         rotate_left
         ·simp only [Act.put, List.setIfInBounds_toArray, List.set_cons_zero, List.set_cons_succ, i64_w, i32_w]
          rfl
         refine take_ (i := 2) (N := some 56) (v := ?_) (a' := ?_) #[true, false, true, false, false, false, false, false, false, false, false, false, false, false, false, false, false, false, false, false, false, false, false, false, false, false, false] rfl rfl (take_ofW HT_.out HW_.out (by kernel_rfl)) (fun _ _ _ h => h) (Or.inl ⟨by rfl, ?_⟩) hHeld ?_ ?_
         rotate_left
         ·rintro w' ⟨s0, s1, s2⟩
          go_simp
          with_reducible rfl
         rotate_left
         ·simp only [Act.put, List.setIfInBounds_toArray, List.set_cons_zero, List.set_cons_succ, i64_w, i32_w]
          rfl
         refine take_ (i := 4) (N := some 58) (v := ?_) (a' := ?_) #[true, false, true, false, true, false, false, false, false, false, false, false, false, false, false, false, false, false, false, false, false, false, false, false, false, false, false] rfl rfl (take_ofW HT_.out HW_.out (by kernel_rfl)) (fun _ _ _ h => h) (Or.inl ⟨by rfl, ?_⟩) hHeld ?_ ?_
         rotate_left
         ·rintro w' ⟨s0, s1, s2⟩
          go_simp
          with_reducible rfl
         rotate_left
         ·simp only [Act.put, List.setIfInBounds_toArray, List.set_cons_zero, List.set_cons_succ, i64_w, i32_w]
          rfl
         refine one_ (i := 1) (N := some 55) #[true, true, true, false, true, false, false, false, false, false, false, false, false, false, false, false, false, false, false, false, false, false, false, false, false, false, false] rfl rfl (one_of HT_.out (by kernel_rfl)) (by decide) (fun K hK => ?_)
         refine goes_ Try.func40 (by kernel_rfl) rfl #[.agg #[.slice Ao25 t629.length co25]] (by rfl) rfl rfl (by (try simp only [List.map_toArray, List.map_cons, List.map_nil]); first | done | rfl | (simp only [List.length_drop, List.length_take]; rfl)) ?_
         with_reducible refine (impl_ProgReads.calls kj5 _ _ t629 t636 _ ?side1 ?side2 A60.out).mono ?_
         (case side1 => repeat (first | exact (Kd.S_reads' HO_634000.out).2.2 | (with_reducible refine Kd.C_alloc ?_ _) | (with_reducible refine Kd.C_drewN ?_ _) | (with_reducible refine Kd.C_drew ?_)))
         (case side2 => exact (Kd.S_reads' HO_634000.out).2.1)
         rintro e w88 ⟨rfl, hb⟩
         refine ⟨_, rfl, ?_⟩
         have n0_ := am_ (Kd.S_below (su HO_623000.out) hb)
         have n1_ := am_ (Kd.S_below (su HO_624000.out) hb)
         have n2_ := am_ (Kd.S_below (su HO_629000.out) hb)
         have n3_ := am_ (Kd.S_below (su HO_634000.out) hb)
         have n4_ := am_ (blk_below (bu BK622.out) hb)
         have n5_ := am_ (blk_below (bu BK623.out) hb)
         have n6_ := am_ (blk_below (bu BK628.out) hb)
         have n7_ := am_ (blk_below (bu BK633.out) hb)
         have n8_ := am_ (below_step z8_13 hb)
         clear HO_623000 HO_624000 HO_629000 HO_634000 BK622 BK623 BK628 BK633 HB
         have HO_623000 := n0_
         have HO_624000 := n1_
         have HO_629000 := n2_
         have HO_634000 := n3_
         have BK622 := n4_
         have BK623 := n5_
         have BK628 := n6_
         have BK633 := n7_
         have HB := n8_
         clear n0_ n1_ n2_ n3_ n4_ n5_ n6_ n7_ n8_
         (try clear hb)
         (try clear hb2)
         (try clear hk)
         (try clear hi)
         refine hK.out _ _ ⟨(blk_cell BK633.out 0).trans rfl, (blk_cell BK622.out 0).trans rfl, (blk_cell BK623.out 0).trans rfl⟩ (fun hHeld => ?_)
         clear hK K
         refine norm_ (a' := ?_) ?_ ?_
         rotate_left
         ·show Act.put _ (some 55) _ = _
          simp only [Act.put, List.setIfInBounds_toArray, List.set_cons_zero, List.set_cons_succ, i64_w, i32_w]
          rfl
         refine one_ (i := 3) (N := some 57) #[true, true, true, true, true, false, false, false, false, false, false, false, false, false, false, false, false, false, false, false, false, false, false, false, false, false, false] rfl rfl (one_of HT_.out (by kernel_rfl)) (by decide) (fun K hK => ?_)
         refine goes_ Try.func40 (by kernel_rfl) rfl #[.agg #[.slice Ao10 t616.length co10]] (by rfl) rfl rfl (by (try simp only [List.map_toArray, List.map_cons, List.map_nil]); first | done | rfl | (simp only [List.length_drop, List.length_take]; rfl)) ?_
         with_reducible refine (impl_ProgReads.calls kj5 _ _ t616 t637 _ ?side1 ?side2 A61.out).mono ?_
         (case side1 => repeat (first | exact (Kd.S_reads' HO_623000.out).2.2 | (with_reducible refine Kd.C_alloc ?_ _) | (with_reducible refine Kd.C_drewN ?_ _) | (with_reducible refine Kd.C_drew ?_)))
         (case side2 => exact (Kd.S_reads' HO_623000.out).2.1)
         rintro e w89 ⟨rfl, hb⟩
         refine ⟨_, rfl, ?_⟩
         have n0_ := am_ (Kd.S_below (su HO_623000.out) hb)
         have n1_ := am_ (Kd.S_below (su HO_624000.out) hb)
         have n2_ := am_ (Kd.S_below (su HO_629000.out) hb)
         have n3_ := am_ (Kd.S_below (su HO_634000.out) hb)
         have n4_ := am_ (blk_below (bu BK622.out) hb)
         have n5_ := am_ (blk_below (bu BK623.out) hb)
         have n6_ := am_ (blk_below (bu BK628.out) hb)
         have n7_ := am_ (blk_below (bu BK633.out) hb)
         have n8_ := am_ (below_step z8_13 hb)
         clear HO_623000 HO_624000 HO_629000 HO_634000 BK622 BK623 BK628 BK633 HB
         have HO_623000 := n0_
         have HO_624000 := n1_
         have HO_629000 := n2_
         have HO_634000 := n3_
         have BK622 := n4_
         have BK623 := n5_
         have BK628 := n6_
         have BK633 := n7_
         have HB := n8_
         clear n0_ n1_ n2_ n3_ n4_ n5_ n6_ n7_ n8_
         (try clear hb)
         (try clear hb2)
         (try clear hk)
         (try clear hi)
         refine hK.out _ _ ⟨(blk_cell BK633.out 0).trans rfl, (blk_cell BK622.out 0).trans rfl, (blk_cell BK623.out 0).trans rfl⟩ (fun hHeld => ?_)
         clear hK K
         refine norm_ (a' := ?_) ?_ ?_
         rotate_left
         ·show Act.put _ (some 57) _ = _
          simp only [Act.put, List.setIfInBounds_toArray, List.set_cons_zero, List.set_cons_succ, i64_w, i32_w]
          rfl
         refine one_ (i := 5) (N := some 59) #[true, true, true, true, true, true, false, false, false, false, false, false, false, false, false, false, false, false, false, false, false, false, false, false, false, false, false] rfl rfl (one_of HT_.out (by kernel_rfl)) (by decide) (fun K hK => ?_)
         refine goes_ Try.func40 (by kernel_rfl) rfl #[.agg #[.slice Ao13 t619.length co13]] (by rfl) rfl rfl (by (try simp only [List.map_toArray, List.map_cons, List.map_nil]); first | done | rfl | (simp only [List.length_drop, List.length_take]; rfl)) ?_
         with_reducible refine (impl_ProgReads.calls kj5 _ _ t619 t638 _ ?side1 ?side2 A62.out).mono ?_
         (case side1 => repeat (first | exact (Kd.S_reads' HO_624000.out).2.2 | (with_reducible refine Kd.C_alloc ?_ _) | (with_reducible refine Kd.C_drewN ?_ _) | (with_reducible refine Kd.C_drew ?_)))
         (case side2 => exact (Kd.S_reads' HO_624000.out).2.1)
         rintro e w90 ⟨rfl, hb⟩
         refine ⟨_, rfl, ?_⟩
         have n0_ := am_ (Kd.S_below (su HO_623000.out) hb)
         have n1_ := am_ (Kd.S_below (su HO_624000.out) hb)
         have n2_ := am_ (Kd.S_below (su HO_629000.out) hb)
         have n3_ := am_ (Kd.S_below (su HO_634000.out) hb)
         have n4_ := am_ (blk_below (bu BK622.out) hb)
         have n5_ := am_ (blk_below (bu BK623.out) hb)
         have n6_ := am_ (blk_below (bu BK628.out) hb)
         have n7_ := am_ (blk_below (bu BK633.out) hb)
         have n8_ := am_ (below_step z8_13 hb)
         clear HO_623000 HO_624000 HO_629000 HO_634000 BK622 BK623 BK628 BK633 HB
         have HO_623000 := n0_
         have HO_624000 := n1_
         have HO_629000 := n2_
         have HO_634000 := n3_
         have BK622 := n4_
         have BK623 := n5_
         have BK628 := n6_
         have BK633 := n7_
         have HB := n8_
         clear n0_ n1_ n2_ n3_ n4_ n5_ n6_ n7_ n8_
         (try clear hb)
         (try clear hb2)
         (try clear hk)
         (try clear hi)
         have q91 : ((t616.length : Int) : Int) ≤ ((t629.length : Int) : Int) := of_decide_eq_true z8_2
         obtain ⟨i091, hi091, _, hsz91, _⟩ := info_parts info82
         have hroom91 : t629.length ≤ co25 := (Kd.S_reads' HO_634000.out).2.1
         have hC91 : Kd.C (Kd.slice 85 k85) _ Ao25 t629.length t629 := (Kd.S_reads' HO_634000.out).2.2
         have hcut91 := cut_to (P := Try.prog) 33 82 .i64 Try.underlying33 hi091 Ao25 t629.length co25 (t616.length : Int) (of_decide_eq_true z8_2) q91 hroom91
         have hr91 := Kd.C_take (m := ((t616.length : Int) : Int).toNat) hC91 (by omega)
         have hy91 : y639.length = ((t616.length : Int) : Int).toNat := (by rw [Ny639.out, List.length_take]; omega)
         rw [← Ny639.out] at hr91
         rw [← hy91] at hcut91
         have HR642 := am_ hr91
         have HC642 := am_ (show y639.length ≤ co25 from by omega)
         clear hr91 hC91 hroom91 hi091 hsz91
         have KY91 := am_ hy91
         clear hy91
         have KL91 := am_ (show ((t616.length : Int) : Int).toNat ≤ t629.length from by omega)
         replace q91 := eq_true q91
         refine hK.out _ _ ⟨(blk_cell BK633.out 0).trans rfl, (blk_cell BK622.out 0).trans rfl, (blk_cell BK623.out 0).trans rfl⟩ (fun hHeld => ?_)
         clear hK K
         refine norm_ (a' := ?_) ?_ ?_
         rotate_left
         ·show Act.put _ (some 59) _ = _
          simp only [Act.put, List.setIfInBounds_toArray, List.set_cons_zero, List.set_cons_succ, i64_w, i32_w]
          rfl
         refine pure_ (i := 6) (N := some 60) (v := ?_) (a' := ?_) #[true, true, true, true, true, true, true, false, false, false, false, false, false, false, false, false, false, false, false, false, false, false, false, false, false, false, false] rfl rfl (any_of HT_.out (by kernel_rfl)) (fun _ _ _ h => h) (Or.inl ⟨by rfl, ?_⟩) ?_ ?_
         rotate_left
         ·intro w'
          go_simp
          with_reducible rfl
         rotate_left
         ·simp only [Act.put, List.setIfInBounds_toArray, List.set_cons_zero, List.set_cons_succ, i64_w, i32_w]
          rfl
         refine pure_ (i := 7) (N := some 61) (v := ?_) (a' := ?_) #[true, true, true, true, true, true, true, true, false, false, false, false, false, false, false, false, false, false, false, false, false, false, false, false, false, false, false] rfl rfl (any_of HT_.out (by kernel_rfl)) (fun _ _ _ h => h) (Or.inl ⟨by rfl, ?_⟩) ?_ ?_
         rotate_left
         ·intro w'
          go_simp
          with_reducible rfl
         rotate_left
         ·simp only [Act.put, List.setIfInBounds_toArray, List.set_cons_zero, List.set_cons_succ, i64_w, i32_w]
          rfl
         refine pure_ (i := 8) (N := some 62) (v := ?_) (a' := ?_) #[true, true, true, true, true, true, true, true, true, false, false, false, false, false, false, false, false, false, false, false, false, false, false, false, false, false, false] rfl rfl (any_of HT_.out (by kernel_rfl)) (fun _ _ _ h => h) (Or.inl ⟨by rfl, ?_⟩) ?_ ?_
         rotate_left
         ·intro w'
          go_simp
          with_reducible rfl
         rotate_left
         ·simp only [Act.put, List.setIfInBounds_toArray, List.set_cons_zero, List.set_cons_succ, i64_w, i32_w]
          rfl
         refine pure_ (i := 9) (N := some 63) (v := ?_) (a' := ?_) #[true, true, true, true, true, true, true, true, true, true, false, false, false, false, false, false, false, false, false, false, false, false, false, false, false, false, false] rfl rfl (any_of HT_.out (by kernel_rfl)) (fun _ _ _ h => h) (Or.inl ⟨by rfl, ?_⟩) ?_ ?_
         rotate_left
         ·intro w'
          go_simp
          with_reducible rfl
         rotate_left
         ·simp only [Act.put, List.setIfInBounds_toArray, List.set_cons_zero, List.set_cons_succ, i64_w, i32_w]
          rfl
         refine pure_ (i := 11) (N := some 65) (v := ?_) (a' := ?_) #[true, true, true, true, true, true, true, true, true, true, false, true, false, false, false, false, false, false, false, false, false, false, false, false, false, false, false] rfl rfl (any_of HT_.out (by kernel_rfl)) (fun _ _ _ h => h) (Or.inl ⟨by rfl, ?_⟩) ?_ ?_
         rotate_left
         ·intro w'
          go_simp
          with_reducible rfl
         rotate_left
         ·simp only [Act.put, List.setIfInBounds_toArray, List.set_cons_zero, List.set_cons_succ, i64_w, i32_w]
          rfl
         refine take_ (i := 10) (N := some 64) (v := ?_) (a' := ?_) #[true, true, true, true, true, true, true, true, true, true, true, true, false, false, false, false, false, false, false, false, false, false, false, false, false, false, false] rfl rfl (take_ofW HT_.out HW_.out (by kernel_rfl)) (fun _ _ _ h => h) (Or.inl ⟨by rfl, ?_⟩) hHeld ?_ ?_
         rotate_left
         ·rintro w' ⟨s0, s1, s2⟩
          go_simp
          with_reducible rfl
         rotate_left
         ·simp only [Act.put, List.setIfInBounds_toArray, List.set_cons_zero, List.set_cons_succ, i64_w, i32_w]
          rfl
         refine pure_ (i := 12) (N := some 66) (v := ?_) (a' := ?_) #[true, true, true, true, true, true, true, true, true, true, true, true, true, false, false, false, false, false, false, false, false, false, false, false, false, false, false] rfl rfl (any_of HT_.out (by kernel_rfl)) (fun _ _ _ h => h) (Or.inl ⟨by rfl, ?_⟩) ?_ ?_
         rotate_left
         ·intro w'
          go_simp
          with_reducible rfl
         rotate_left
         ·simp only [Act.put, List.setIfInBounds_toArray, List.set_cons_zero, List.set_cons_succ, i64_w, i32_w]
          rfl
         refine pure_ (i := 13) (N := some 67) (v := ?_) (a' := ?_) #[true, true, true, true, true, true, true, true, true, true, true, true, true, true, false, false, false, false, false, false, false, false, false, false, false, false, false] rfl rfl (any_of HT_.out (by kernel_rfl)) (fun _ _ _ h => h) (Or.inl ⟨by rfl, ?_⟩) ?_ ?_
         rotate_left
         ·intro w'
          go_simp
          with_reducible rfl
         rotate_left
         ·simp only [Act.put, List.setIfInBounds_toArray, List.set_cons_zero, List.set_cons_succ, i64_w, i32_w]
          rfl
         refine take_ (i := 14) (N := some 68) (v := ?_) (a' := ?_) #[true, true, true, true, true, true, true, true, true, true, true, true, true, true, true, false, false, false, false, false, false, false, false, false, false, false, false] rfl rfl (take_ofW HT_.out HW_.out (by kernel_rfl)) (fun _ _ _ h => h) (Or.inl ⟨by rfl, ?_⟩) hHeld ?_ ?_
         rotate_left
         ·rintro w' ⟨s0, s1, s2⟩
          go_simp
          with_reducible rfl
         rotate_left
         ·simp only [Act.put, List.setIfInBounds_toArray, List.set_cons_zero, List.set_cons_succ, i64_w, i32_w]
          rfl
         refine one_ (i := 15) (N := some 69) #[true, true, true, true, true, true, true, true, true, true, true, true, true, true, true, true, false, false, false, false, false, false, false, false, false, false, false] rfl rfl (one_of HT_.out (by kernel_rfl)) (by decide) (fun K hK => ?_)
         refine goes_ Try.func30 (by kernel_rfl) rfl #[.agg #[.slice Ao25 y639.length co25], .agg #[.slice Ao10 t616.length co10]] (by rfl) rfl rfl (by (try simp only [List.map_toArray, List.map_cons, List.map_nil]); first | done | rfl | (simp only [List.length_drop, List.length_take]; rfl)) ?_
         with_reducible refine (laws_lpProg.calls kj5 _ _ y639 _ _ t616 false _ ?side1 ?side2 ?side3 ?side4 A66.out).mono ?_
         (case side1 => repeat (first | exact z8_6 | (with_reducible refine Kd.C_alloc ?_ _) | (with_reducible refine Kd.C_drewN ?_ _) | (with_reducible refine Kd.C_drew ?_)))
         (case side2 => exact HC642.out)
         (case side3 => repeat (first | exact (Kd.S_reads' HO_623000.out).2.2 | (with_reducible refine Kd.C_alloc ?_ _) | (with_reducible refine Kd.C_drewN ?_ _) | (with_reducible refine Kd.C_drew ?_)))
         (case side4 => exact (Kd.S_reads' HO_623000.out).2.1)
         rintro e w92 ⟨rfl, hb⟩
         refine ⟨_, rfl, ?_⟩
         have n0_ := am_ (Kd.S_below (su HO_623000.out) hb)
         have n1_ := am_ (Kd.S_below (su HO_624000.out) hb)
         have n2_ := am_ (Kd.S_below (su HO_629000.out) hb)
         have n3_ := am_ (Kd.S_below (su HO_634000.out) hb)
         have n4_ := am_ (blk_below (bu BK622.out) hb)
         have n5_ := am_ (blk_below (bu BK623.out) hb)
         have n6_ := am_ (blk_below (bu BK628.out) hb)
         have n7_ := am_ (blk_below (bu BK633.out) hb)
         have n8_ := am_ (Kd.C_below z8_6 hb)
         have n9_ := am_ (below_step z8_13 hb)
         clear HO_623000 HO_624000 HO_629000 HO_634000 BK622 BK623 BK628 BK633 HR642 HB
         have HO_623000 := n0_
         have HO_624000 := n1_
         have HO_629000 := n2_
         have HO_634000 := n3_
         have BK622 := n4_
         have BK623 := n5_
         have BK628 := n6_
         have BK633 := n7_
         have HR642 := n8_
         have HB := n9_
         clear n0_ n1_ n2_ n3_ n4_ n5_ n6_ n7_ n8_ n9_
         (try clear hb)
         (try clear hb2)
         (try clear hk)
         (try clear hi)
         refine hK.out _ _ ⟨(blk_cell BK633.out 0).trans rfl, (blk_cell BK622.out 0).trans rfl, (blk_cell BK623.out 0).trans rfl⟩ (fun hHeld => ?_)
         clear hK K
         refine norm_ (a' := ?_) ?_ ?_
         rotate_left
         ·show Act.put _ (some 69) _ = _
          simp only [Act.put, List.setIfInBounds_toArray, List.set_cons_zero, List.set_cons_succ, i64_w, i32_w]
          rfl
         refine pure_ (i := 16) (N := some 70) (v := ?_) (a' := ?_) #[true, true, true, true, true, true, true, true, true, true, true, true, true, true, true, true, true, false, false, false, false, false, false, false, false, false, false] rfl rfl (any_of HT_.out (by kernel_rfl)) (fun _ _ _ h => h) (Or.inl ⟨by rfl, ?_⟩) ?_ ?_
         rotate_left
         ·intro w'
          go_simp
          with_reducible rfl
         rotate_left
         ·simp only [Act.put, List.setIfInBounds_toArray, List.set_cons_zero, List.set_cons_succ, i64_w, i32_w]
          rfl
         refine pure_ (i := 17) (N := some 71) (v := ?_) (a' := ?_) #[true, true, true, true, true, true, true, true, true, true, true, true, true, true, true, true, true, true, false, false, false, false, false, false, false, false, false] rfl rfl (any_of HT_.out (by kernel_rfl)) (fun _ _ _ h => h) (Or.inl ⟨by rfl, ?_⟩) ?_ ?_
         rotate_left
         ·intro w'
          go_simp
          with_reducible rfl
         rotate_left
         ·simp only [Act.put, List.setIfInBounds_toArray, List.set_cons_zero, List.set_cons_succ, i64_w, i32_w]
          rfl
         refine pure_ (i := 18) (N := some 72) (v := undef) (a' := ?_) #[true, true, true, true, true, true, true, true, true, true, true, true, true, true, true, true, true, true, true, false, false, false, false, false, false, false, false] rfl rfl (any_of HT_.out (by kernel_rfl)) (fun _ _ _ h => h) (Or.inr ⟨by rfl, rfl⟩) ?_ ?_
         rotate_left
         ·simp only [Act.put, List.setIfInBounds_toArray, List.set_cons_zero, List.set_cons_succ, i64_w, i32_w]
          rfl
         refine pure_ (i := 19) (N := some 73) (v := undef) (a' := ?_) #[true, true, true, true, true, true, true, true, true, true, true, true, true, true, true, true, true, true, true, true, false, false, false, false, false, false, false] rfl rfl (any_of HT_.out (by kernel_rfl)) (fun _ _ _ h => h) (Or.inr ⟨by rfl, rfl⟩) ?_ ?_
         rotate_left
         ·simp only [Act.put, List.setIfInBounds_toArray, List.set_cons_zero, List.set_cons_succ, i64_w, i32_w]
          rfl
         refine pure_ (i := 20) (N := some 74) (v := undef) (a' := ?_) #[true, true, true, true, true, true, true, true, true, true, true, true, true, true, true, true, true, true, true, true, true, false, false, false, false, false, false] rfl rfl (any_of HT_.out (by kernel_rfl)) (fun _ _ _ h => h) (Or.inr ⟨by rfl, rfl⟩) ?_ ?_
         rotate_left
         ·simp only [Act.put, List.setIfInBounds_toArray, List.set_cons_zero, List.set_cons_succ, i64_w, i32_w]
          rfl
         refine pure_ (i := 21) (N := some 75) (v := undef) (a' := ?_) #[true, true, true, true, true, true, true, true, true, true, true, true, true, true, true, true, true, true, true, true, true, true, false, false, false, false, false] rfl rfl (any_of HT_.out (by kernel_rfl)) (fun _ _ _ h => h) (Or.inr ⟨by rfl, rfl⟩) ?_ ?_
         rotate_left
         ·simp only [Act.put, List.setIfInBounds_toArray, List.set_cons_zero, List.set_cons_succ, i64_w, i32_w]
          rfl
         refine pure_ (i := 22) (N := some 76) (v := undef) (a' := ?_) #[true, true, true, true, true, true, true, true, true, true, true, true, true, true, true, true, true, true, true, true, true, true, true, false, false, false, false] rfl rfl (any_of HT_.out (by kernel_rfl)) (fun _ _ _ h => h) (Or.inr ⟨by rfl, rfl⟩) ?_ ?_
         rotate_left
         ·simp only [Act.put, List.setIfInBounds_toArray, List.set_cons_zero, List.set_cons_succ, i64_w, i32_w]
          rfl
         refine pure_ (i := 23) (N := some 77) (v := undef) (a' := ?_) #[true, true, true, true, true, true, true, true, true, true, true, true, true, true, true, true, true, true, true, true, true, true, true, true, false, false, false] rfl rfl (any_of HT_.out (by kernel_rfl)) (fun _ _ _ h => h) (Or.inr ⟨by rfl, rfl⟩) ?_ ?_
         rotate_left
         ·simp only [Act.put, List.setIfInBounds_toArray, List.set_cons_zero, List.set_cons_succ, i64_w, i32_w]
          rfl
         refine pure_ (i := 24) (N := some 78) (v := undef) (a' := ?_) #[true, true, true, true, true, true, true, true, true, true, true, true, true, true, true, true, true, true, true, true, true, true, true, true, true, false, false] rfl rfl (any_of HT_.out (by kernel_rfl)) (fun _ _ _ h => h) (Or.inr ⟨by rfl, rfl⟩) ?_ ?_
         rotate_left
         ·simp only [Act.put, List.setIfInBounds_toArray, List.set_cons_zero, List.set_cons_succ, i64_w, i32_w]
          rfl
         refine pure_ (i := 25) (N := some 79) (v := ?_) (a' := ?_) #[true, true, true, true, true, true, true, true, true, true, true, true, true, true, true, true, true, true, true, true, true, true, true, true, true, true, false] rfl rfl (any_of HT_.out (by kernel_rfl)) (fun _ _ _ h => h) (Or.inl ⟨by rfl, ?_⟩) ?_ ?_
         rotate_left
         ·intro w'
          go_simp
          with_reducible rfl
         rotate_left
         ·simp only [Act.put, List.setIfInBounds_toArray, List.set_cons_zero, List.set_cons_succ, i64_w, i32_w]
          rfl
         refine pure_ (i := 26) (N := some 2) (v := ?_) (a' := ?_) #[true, true, true, true, true, true, true, true, true, true, true, true, true, true, true, true, true, true, true, true, true, true, true, true, true, true, true] rfl rfl (any_of HT_.out (by kernel_rfl)) (fun _ _ _ h => h) (Or.inl ⟨by rfl, ?_⟩) ?_ ?_
         rotate_left
         ·intro w'
          go_simp
          with_reducible rfl
         rotate_left
         ·simp only [Act.put, List.setIfInBounds_toArray, List.set_cons_zero, List.set_cons_succ, i64_w, i32_w]
          rfl
         refine done_ (done_of HT_.out (by kernel_rfl)) ?_
         try go_wp2
         go_ret
         exact ⟨z8_3, z8_13⟩
       ·rw [if_neg c65] at H
        exact absurd H (by simp)
      ·rw [if_neg c64] at H
       exact absurd H (by simp)
     ·rw [if_neg c63] at H
      have c63b0 : (t636 == (wrap64 (t637 + t638))) = false := beq_eq_false_iff_ne.mpr c63
      have c63b1 : (t636 != (wrap64 (t637 + t638))) = true := bne_iff_ne.mpr c63
      obtain rfl := Option.some.inj H
      have hnb93 := NB622_623.out
      have hnc93 := NB623_622.out
      have hnb94 := NB622_628.out
      have hnc94 := NB628_622.out
      have hnb95 := NB622_633.out
      have hnc95 := NB633_622.out
      have hcz96_0 : wc.cell? ⟨gb622, 0, none⟩ = some (.slice Ao10 t616.length co10) := (blk_cell BK622.out 0).trans rfl
      have hfz96_0 := blk_frozen BK622.out 0
      try go_wp2
      have n0_ := am_ (Kd.S_drew HO_623000.out)
      have n1_ := am_ (Kd.S_drew HO_624000.out)
      have n2_ := am_ (Kd.S_drew HO_629000.out)
      have n3_ := am_ (Kd.S_drew HO_634000.out)
      have n4_ := am_ (blk_drew BK622.out)
      have n5_ := am_ (blk_drew BK623.out)
      have n6_ := am_ (blk_drew BK628.out)
      have n7_ := am_ (blk_drew BK633.out)
      have n8_ := am_ (below_drew1 HB.out)
      clear HO_623000 HO_624000 HO_629000 HO_634000 BK622 BK623 BK628 BK633 HB
      have HO_623000 := n0_
      have HO_624000 := n1_
      have HO_629000 := n2_
      have HO_634000 := n3_
      have BK622 := n4_
      have BK623 := n5_
      have BK628 := n6_
      have BK633 := n7_
      have HB := n8_
      clear n0_ n1_ n2_ n3_ n4_ n5_ n6_ n7_ n8_
      refine start_ (n := 27) (S := fun w' => w'.cell? ⟨gb633, 0, none⟩ = some (.slice Ao25 t629.length co25) ∧ w'.cell? ⟨gb622, 0, none⟩ = some (.slice Ao10 t616.length co10) ∧ w'.cell? ⟨gb623, 0, none⟩ = some (.slice Ao13 t619.length co13)) (ds := []) #[false, false, false, false, false, false, false, false, false, false, false, false, false, false, false, false, false, false, false, false, false, false, false, false, false, false, false] (by kernel_rfl) rfl rfl ⟨(blk_cell BK633.out 0).trans rfl, (blk_cell BK622.out 0).trans rfl, (blk_cell BK623.out 0).trans rfl⟩ (fun hHeld => ?_); refine with_tabW laws_FnTurnBeside.tab9 laws_FnTurnBeside.bits9 (fun HT_ HW_ => ?_)
      generalize wc.drew = w97 at HO_623000 HO_624000 HO_629000 HO_634000 BK622 BK623 BK628 BK633 HB hHeld ⊢
      refine take_ (i := 0) (N := some 54) (v := ?_) (a' := ?_) #[true, false, false, false, false, false, false, false, false, false, false, false, false, false, false, false, false, false, false, false, false, false, false, false, false, false, false] rfl rfl (take_ofW HT_.out HW_.out (by kernel_rfl)) (fun _ _ _ h => h) (Or.inl ⟨by rfl, ?_⟩) hHeld ?_ ?_
      rotate_left
      ·rintro w' ⟨s0, s1, s2⟩
       go_simp
       with_reducible rfl
      rotate_left
      ·simp only [Act.put, List.setIfInBounds_toArray, List.set_cons_zero, List.set_cons_succ, i64_w, i32_w]
       rfl
      refine take_ (i := 2) (N := some 56) (v := ?_) (a' := ?_) #[true, false, true, false, false, false, false, false, false, false, false, false, false, false, false, false, false, false, false, false, false, false, false, false, false, false, false] rfl rfl (take_ofW HT_.out HW_.out (by kernel_rfl)) (fun _ _ _ h => h) (Or.inl ⟨by rfl, ?_⟩) hHeld ?_ ?_
      rotate_left
      ·rintro w' ⟨s0, s1, s2⟩
       go_simp
       with_reducible rfl
      rotate_left
      ·simp only [Act.put, List.setIfInBounds_toArray, List.set_cons_zero, List.set_cons_succ, i64_w, i32_w]
       rfl
      refine take_ (i := 4) (N := some 58) (v := ?_) (a' := ?_) #[true, false, true, false, true, false, false, false, false, false, false, false, false, false, false, false, false, false, false, false, false, false, false, false, false, false, false] rfl rfl (take_ofW HT_.out HW_.out (by kernel_rfl)) (fun _ _ _ h => h) (Or.inl ⟨by rfl, ?_⟩) hHeld ?_ ?_
      rotate_left
      ·rintro w' ⟨s0, s1, s2⟩
       go_simp
       with_reducible rfl
      rotate_left
      ·simp only [Act.put, List.setIfInBounds_toArray, List.set_cons_zero, List.set_cons_succ, i64_w, i32_w]
       rfl
      refine one_ (i := 1) (N := some 55) #[true, true, true, false, true, false, false, false, false, false, false, false, false, false, false, false, false, false, false, false, false, false, false, false, false, false, false] rfl rfl (one_of HT_.out (by kernel_rfl)) (by decide) (fun K hK => ?_)
      refine goes_ Try.func40 (by kernel_rfl) rfl #[.agg #[.slice Ao25 t629.length co25]] (by rfl) rfl rfl (by (try simp only [List.map_toArray, List.map_cons, List.map_nil]); first | done | rfl | (simp only [List.length_drop, List.length_take]; rfl)) ?_
      with_reducible refine (impl_ProgReads.calls kj5 _ _ t629 t636 _ ?side1 ?side2 A60.out).mono ?_
      (case side1 => repeat (first | exact (Kd.S_reads' HO_634000.out).2.2 | (with_reducible refine Kd.C_alloc ?_ _) | (with_reducible refine Kd.C_drewN ?_ _) | (with_reducible refine Kd.C_drew ?_)))
      (case side2 => exact (Kd.S_reads' HO_634000.out).2.1)
      rintro e w98 ⟨rfl, hb⟩
      refine ⟨_, rfl, ?_⟩
      have n0_ := am_ (Kd.S_below (su HO_623000.out) hb)
      have n1_ := am_ (Kd.S_below (su HO_624000.out) hb)
      have n2_ := am_ (Kd.S_below (su HO_629000.out) hb)
      have n3_ := am_ (Kd.S_below (su HO_634000.out) hb)
      have n4_ := am_ (blk_below (bu BK622.out) hb)
      have n5_ := am_ (blk_below (bu BK623.out) hb)
      have n6_ := am_ (blk_below (bu BK628.out) hb)
      have n7_ := am_ (blk_below (bu BK633.out) hb)
      have n8_ := am_ (below_step z8_13 hb)
      clear HO_623000 HO_624000 HO_629000 HO_634000 BK622 BK623 BK628 BK633 HB
      have HO_623000 := n0_
      have HO_624000 := n1_
      have HO_629000 := n2_
      have HO_634000 := n3_
      have BK622 := n4_
      have BK623 := n5_
      have BK628 := n6_
      have BK633 := n7_
      have HB := n8_
      clear n0_ n1_ n2_ n3_ n4_ n5_ n6_ n7_ n8_
      (try clear hb)
      (try clear hb2)
      (try clear hk)
      (try clear hi)
      refine hK.out _ _ ⟨(blk_cell BK633.out 0).trans rfl, (blk_cell BK622.out 0).trans rfl, (blk_cell BK623.out 0).trans rfl⟩ (fun hHeld => ?_)
      clear hK K
      refine norm_ (a' := ?_) ?_ ?_
      rotate_left
      ·show Act.put _ (some 55) _ = _
       simp only [Act.put, List.setIfInBounds_toArray, List.set_cons_zero, List.set_cons_succ, i64_w, i32_w]
       rfl
      refine one_ (i := 3) (N := some 57) #[true, true, true, true, true, false, false, false, false, false, false, false, false, false, false, false, false, false, false, false, false, false, false, false, false, false, false] rfl rfl (one_of HT_.out (by kernel_rfl)) (by decide) (fun K hK => ?_)
      refine goes_ Try.func40 (by kernel_rfl) rfl #[.agg #[.slice Ao10 t616.length co10]] (by rfl) rfl rfl (by (try simp only [List.map_toArray, List.map_cons, List.map_nil]); first | done | rfl | (simp only [List.length_drop, List.length_take]; rfl)) ?_
      with_reducible refine (impl_ProgReads.calls kj5 _ _ t616 t637 _ ?side1 ?side2 A61.out).mono ?_
      (case side1 => repeat (first | exact (Kd.S_reads' HO_623000.out).2.2 | (with_reducible refine Kd.C_alloc ?_ _) | (with_reducible refine Kd.C_drewN ?_ _) | (with_reducible refine Kd.C_drew ?_)))
      (case side2 => exact (Kd.S_reads' HO_623000.out).2.1)
      rintro e w99 ⟨rfl, hb⟩
      refine ⟨_, rfl, ?_⟩
      have n0_ := am_ (Kd.S_below (su HO_623000.out) hb)
      have n1_ := am_ (Kd.S_below (su HO_624000.out) hb)
      have n2_ := am_ (Kd.S_below (su HO_629000.out) hb)
      have n3_ := am_ (Kd.S_below (su HO_634000.out) hb)
      have n4_ := am_ (blk_below (bu BK622.out) hb)
      have n5_ := am_ (blk_below (bu BK623.out) hb)
      have n6_ := am_ (blk_below (bu BK628.out) hb)
      have n7_ := am_ (blk_below (bu BK633.out) hb)
      have n8_ := am_ (below_step z8_13 hb)
      clear HO_623000 HO_624000 HO_629000 HO_634000 BK622 BK623 BK628 BK633 HB
      have HO_623000 := n0_
      have HO_624000 := n1_
      have HO_629000 := n2_
      have HO_634000 := n3_
      have BK622 := n4_
      have BK623 := n5_
      have BK628 := n6_
      have BK633 := n7_
      have HB := n8_
      clear n0_ n1_ n2_ n3_ n4_ n5_ n6_ n7_ n8_
      (try clear hb)
      (try clear hb2)
      (try clear hk)
      (try clear hi)
      refine hK.out _ _ ⟨(blk_cell BK633.out 0).trans rfl, (blk_cell BK622.out 0).trans rfl, (blk_cell BK623.out 0).trans rfl⟩ (fun hHeld => ?_)
      clear hK K
      refine norm_ (a' := ?_) ?_ ?_
      rotate_left
      ·show Act.put _ (some 57) _ = _
       simp only [Act.put, List.setIfInBounds_toArray, List.set_cons_zero, List.set_cons_succ, i64_w, i32_w]
       rfl
      refine one_ (i := 5) (N := some 59) #[true, true, true, true, true, true, false, false, false, false, false, false, false, false, false, false, false, false, false, false, false, false, false, false, false, false, false] rfl rfl (one_of HT_.out (by kernel_rfl)) (by decide) (fun K hK => ?_)
      refine goes_ Try.func40 (by kernel_rfl) rfl #[.agg #[.slice Ao13 t619.length co13]] (by rfl) rfl rfl (by (try simp only [List.map_toArray, List.map_cons, List.map_nil]); first | done | rfl | (simp only [List.length_drop, List.length_take]; rfl)) ?_
      with_reducible refine (impl_ProgReads.calls kj5 _ _ t619 t638 _ ?side1 ?side2 A62.out).mono ?_
      (case side1 => repeat (first | exact (Kd.S_reads' HO_624000.out).2.2 | (with_reducible refine Kd.C_alloc ?_ _) | (with_reducible refine Kd.C_drewN ?_ _) | (with_reducible refine Kd.C_drew ?_)))
      (case side2 => exact (Kd.S_reads' HO_624000.out).2.1)
      rintro e w100 ⟨rfl, hb⟩
      refine ⟨_, rfl, ?_⟩
      have n0_ := am_ (Kd.S_below (su HO_623000.out) hb)
      have n1_ := am_ (Kd.S_below (su HO_624000.out) hb)
      have n2_ := am_ (Kd.S_below (su HO_629000.out) hb)
      have n3_ := am_ (Kd.S_below (su HO_634000.out) hb)
      have n4_ := am_ (blk_below (bu BK622.out) hb)
      have n5_ := am_ (blk_below (bu BK623.out) hb)
      have n6_ := am_ (blk_below (bu BK628.out) hb)
      have n7_ := am_ (blk_below (bu BK633.out) hb)
      have n8_ := am_ (below_step z8_13 hb)
      clear HO_623000 HO_624000 HO_629000 HO_634000 BK622 BK623 BK628 BK633 HB
      have HO_623000 := n0_
      have HO_624000 := n1_
      have HO_629000 := n2_
      have HO_634000 := n3_
      have BK622 := n4_
      have BK623 := n5_
      have BK628 := n6_
      have BK633 := n7_
      have HB := n8_
      clear n0_ n1_ n2_ n3_ n4_ n5_ n6_ n7_ n8_
      (try clear hb)
      (try clear hb2)
      (try clear hk)
      (try clear hi)
      refine hK.out _ _ ⟨(blk_cell BK633.out 0).trans rfl, (blk_cell BK622.out 0).trans rfl, (blk_cell BK623.out 0).trans rfl⟩ (fun hHeld => ?_)
      clear hK K
      refine norm_ (a' := ?_) ?_ ?_
      rotate_left
      ·show Act.put _ (some 59) _ = _
       simp only [Act.put, List.setIfInBounds_toArray, List.set_cons_zero, List.set_cons_succ, i64_w, i32_w]
       rfl
      refine pure_ (i := 6) (N := some 60) (v := ?_) (a' := ?_) #[true, true, true, true, true, true, true, false, false, false, false, false, false, false, false, false, false, false, false, false, false, false, false, false, false, false, false] rfl rfl (any_of HT_.out (by kernel_rfl)) (fun _ _ _ h => h) (Or.inl ⟨by rfl, ?_⟩) ?_ ?_
      rotate_left
      ·intro w'
       go_simp
       with_reducible rfl
      rotate_left
      ·simp only [Act.put, List.setIfInBounds_toArray, List.set_cons_zero, List.set_cons_succ, i64_w, i32_w]
       rfl
      refine pure_ (i := 7) (N := some 61) (v := ?_) (a' := ?_) #[true, true, true, true, true, true, true, true, false, false, false, false, false, false, false, false, false, false, false, false, false, false, false, false, false, false, false] rfl rfl (any_of HT_.out (by kernel_rfl)) (fun _ _ _ h => h) (Or.inl ⟨by rfl, ?_⟩) ?_ ?_
      rotate_left
      ·intro w'
       go_simp
       with_reducible rfl
      rotate_left
      ·simp only [Act.put, List.setIfInBounds_toArray, List.set_cons_zero, List.set_cons_succ, i64_w, i32_w]
       rfl
      refine pure_ (i := 8) (N := some 62) (v := ?_) (a' := ?_) #[true, true, true, true, true, true, true, true, true, false, false, false, false, false, false, false, false, false, false, false, false, false, false, false, false, false, false] rfl rfl (any_of HT_.out (by kernel_rfl)) (fun _ _ _ h => h) (Or.inl ⟨by rfl, ?_⟩) ?_ ?_
      rotate_left
      ·intro w'
       go_simp
       with_reducible rfl
      rotate_left
      ·simp only [Act.put, List.setIfInBounds_toArray, List.set_cons_zero, List.set_cons_succ, i64_w, i32_w]
       rfl
      refine pure_ (i := 9) (N := some 63) (v := undef) (a' := ?_) #[true, true, true, true, true, true, true, true, true, true, false, false, false, false, false, false, false, false, false, false, false, false, false, false, false, false, false] rfl rfl (any_of HT_.out (by kernel_rfl)) (fun _ _ _ h => h) (Or.inr ⟨by rfl, rfl⟩) ?_ ?_
      rotate_left
      ·simp only [Act.put, List.setIfInBounds_toArray, List.set_cons_zero, List.set_cons_succ, i64_w, i32_w]
       rfl
      refine pure_ (i := 10) (N := some 64) (v := undef) (a' := ?_) #[true, true, true, true, true, true, true, true, true, true, true, false, false, false, false, false, false, false, false, false, false, false, false, false, false, false, false] rfl rfl (any_of HT_.out (by kernel_rfl)) (fun _ _ _ h => h) (Or.inr ⟨by rfl, rfl⟩) ?_ ?_
      rotate_left
      ·simp only [Act.put, List.setIfInBounds_toArray, List.set_cons_zero, List.set_cons_succ, i64_w, i32_w]
       rfl
      refine pure_ (i := 11) (N := some 65) (v := undef) (a' := ?_) #[true, true, true, true, true, true, true, true, true, true, true, true, false, false, false, false, false, false, false, false, false, false, false, false, false, false, false] rfl rfl (any_of HT_.out (by kernel_rfl)) (fun _ _ _ h => h) (Or.inr ⟨by rfl, rfl⟩) ?_ ?_
      rotate_left
      ·simp only [Act.put, List.setIfInBounds_toArray, List.set_cons_zero, List.set_cons_succ, i64_w, i32_w]
       rfl
      refine pure_ (i := 12) (N := some 66) (v := undef) (a' := ?_) #[true, true, true, true, true, true, true, true, true, true, true, true, true, false, false, false, false, false, false, false, false, false, false, false, false, false, false] rfl rfl (any_of HT_.out (by kernel_rfl)) (fun _ _ _ h => h) (Or.inr ⟨by rfl, rfl⟩) ?_ ?_
      rotate_left
      ·simp only [Act.put, List.setIfInBounds_toArray, List.set_cons_zero, List.set_cons_succ, i64_w, i32_w]
       rfl
      refine pure_ (i := 13) (N := some 67) (v := undef) (a' := ?_) #[true, true, true, true, true, true, true, true, true, true, true, true, true, true, false, false, false, false, false, false, false, false, false, false, false, false, false] rfl rfl (any_of HT_.out (by kernel_rfl)) (fun _ _ _ h => h) (Or.inr ⟨by rfl, rfl⟩) ?_ ?_
      rotate_left
      ·simp only [Act.put, List.setIfInBounds_toArray, List.set_cons_zero, List.set_cons_succ, i64_w, i32_w]
       rfl
      refine pure_ (i := 14) (N := some 68) (v := undef) (a' := ?_) #[true, true, true, true, true, true, true, true, true, true, true, true, true, true, true, false, false, false, false, false, false, false, false, false, false, false, false] rfl rfl (any_of HT_.out (by kernel_rfl)) (fun _ _ _ h => h) (Or.inr ⟨by rfl, rfl⟩) ?_ ?_
      rotate_left
      ·simp only [Act.put, List.setIfInBounds_toArray, List.set_cons_zero, List.set_cons_succ, i64_w, i32_w]
       rfl
      refine pure_ (i := 15) (N := some 69) (v := undef) (a' := ?_) #[true, true, true, true, true, true, true, true, true, true, true, true, true, true, true, true, false, false, false, false, false, false, false, false, false, false, false] rfl rfl (any_of HT_.out (by kernel_rfl)) (fun _ _ _ h => h) (Or.inr ⟨by rfl, rfl⟩) ?_ ?_
      rotate_left
      ·simp only [Act.put, List.setIfInBounds_toArray, List.set_cons_zero, List.set_cons_succ, i64_w, i32_w]
       rfl
      refine pure_ (i := 16) (N := some 70) (v := ?_) (a' := ?_) #[true, true, true, true, true, true, true, true, true, true, true, true, true, true, true, true, true, false, false, false, false, false, false, false, false, false, false] rfl rfl (any_of HT_.out (by kernel_rfl)) (fun _ _ _ h => h) (Or.inl ⟨by rfl, ?_⟩) ?_ ?_
      rotate_left
      ·intro w'
       go_simp
       with_reducible rfl
      rotate_left
      ·simp only [Act.put, List.setIfInBounds_toArray, List.set_cons_zero, List.set_cons_succ, i64_w, i32_w]
       rfl
      refine pure_ (i := 17) (N := some 71) (v := ?_) (a' := ?_) #[true, true, true, true, true, true, true, true, true, true, true, true, true, true, true, true, true, true, false, false, false, false, false, false, false, false, false] rfl rfl (any_of HT_.out (by kernel_rfl)) (fun _ _ _ h => h) (Or.inl ⟨by rfl, ?_⟩) ?_ ?_
      rotate_left
      ·intro w'
       go_simp
       with_reducible rfl
      rotate_left
      ·simp only [Act.put, List.setIfInBounds_toArray, List.set_cons_zero, List.set_cons_succ, i64_w, i32_w]
       rfl
      refine pure_ (i := 18) (N := some 72) (v := undef) (a' := ?_) #[true, true, true, true, true, true, true, true, true, true, true, true, true, true, true, true, true, true, true, false, false, false, false, false, false, false, false] rfl rfl (any_of HT_.out (by kernel_rfl)) (fun _ _ _ h => h) (Or.inr ⟨by rfl, rfl⟩) ?_ ?_
      rotate_left
      ·simp only [Act.put, List.setIfInBounds_toArray, List.set_cons_zero, List.set_cons_succ, i64_w, i32_w]
       rfl
      refine pure_ (i := 19) (N := some 73) (v := undef) (a' := ?_) #[true, true, true, true, true, true, true, true, true, true, true, true, true, true, true, true, true, true, true, true, false, false, false, false, false, false, false] rfl rfl (any_of HT_.out (by kernel_rfl)) (fun _ _ _ h => h) (Or.inr ⟨by rfl, rfl⟩) ?_ ?_
      rotate_left
      ·simp only [Act.put, List.setIfInBounds_toArray, List.set_cons_zero, List.set_cons_succ, i64_w, i32_w]
       rfl
      refine pure_ (i := 20) (N := some 74) (v := undef) (a' := ?_) #[true, true, true, true, true, true, true, true, true, true, true, true, true, true, true, true, true, true, true, true, true, false, false, false, false, false, false] rfl rfl (any_of HT_.out (by kernel_rfl)) (fun _ _ _ h => h) (Or.inr ⟨by rfl, rfl⟩) ?_ ?_
      rotate_left
      ·simp only [Act.put, List.setIfInBounds_toArray, List.set_cons_zero, List.set_cons_succ, i64_w, i32_w]
       rfl
      refine pure_ (i := 21) (N := some 75) (v := undef) (a' := ?_) #[true, true, true, true, true, true, true, true, true, true, true, true, true, true, true, true, true, true, true, true, true, true, false, false, false, false, false] rfl rfl (any_of HT_.out (by kernel_rfl)) (fun _ _ _ h => h) (Or.inr ⟨by rfl, rfl⟩) ?_ ?_
      rotate_left
      ·simp only [Act.put, List.setIfInBounds_toArray, List.set_cons_zero, List.set_cons_succ, i64_w, i32_w]
       rfl
      refine pure_ (i := 22) (N := some 76) (v := undef) (a' := ?_) #[true, true, true, true, true, true, true, true, true, true, true, true, true, true, true, true, true, true, true, true, true, true, true, false, false, false, false] rfl rfl (any_of HT_.out (by kernel_rfl)) (fun _ _ _ h => h) (Or.inr ⟨by rfl, rfl⟩) ?_ ?_
      rotate_left
      ·simp only [Act.put, List.setIfInBounds_toArray, List.set_cons_zero, List.set_cons_succ, i64_w, i32_w]
       rfl
      refine pure_ (i := 23) (N := some 77) (v := undef) (a' := ?_) #[true, true, true, true, true, true, true, true, true, true, true, true, true, true, true, true, true, true, true, true, true, true, true, true, false, false, false] rfl rfl (any_of HT_.out (by kernel_rfl)) (fun _ _ _ h => h) (Or.inr ⟨by rfl, rfl⟩) ?_ ?_
      rotate_left
      ·simp only [Act.put, List.setIfInBounds_toArray, List.set_cons_zero, List.set_cons_succ, i64_w, i32_w]
       rfl
      refine pure_ (i := 24) (N := some 78) (v := undef) (a' := ?_) #[true, true, true, true, true, true, true, true, true, true, true, true, true, true, true, true, true, true, true, true, true, true, true, true, true, false, false] rfl rfl (any_of HT_.out (by kernel_rfl)) (fun _ _ _ h => h) (Or.inr ⟨by rfl, rfl⟩) ?_ ?_
      rotate_left
      ·simp only [Act.put, List.setIfInBounds_toArray, List.set_cons_zero, List.set_cons_succ, i64_w, i32_w]
       rfl
      refine pure_ (i := 25) (N := some 79) (v := ?_) (a' := ?_) #[true, true, true, true, true, true, true, true, true, true, true, true, true, true, true, true, true, true, true, true, true, true, true, true, true, true, false] rfl rfl (any_of HT_.out (by kernel_rfl)) (fun _ _ _ h => h) (Or.inl ⟨by rfl, ?_⟩) ?_ ?_
      rotate_left
      ·intro w'
       go_simp
       with_reducible rfl
      rotate_left
      ·simp only [Act.put, List.setIfInBounds_toArray, List.set_cons_zero, List.set_cons_succ, i64_w, i32_w]
       rfl
      refine pure_ (i := 26) (N := some 2) (v := ?_) (a' := ?_) #[true, true, true, true, true, true, true, true, true, true, true, true, true, true, true, true, true, true, true, true, true, true, true, true, true, true, true] rfl rfl (any_of HT_.out (by kernel_rfl)) (fun _ _ _ h => h) (Or.inl ⟨by rfl, ?_⟩) ?_ ?_
      rotate_left
      ·intro w'
       go_simp
       with_reducible rfl
      rotate_left
      ·simp only [Act.put, List.setIfInBounds_toArray, List.set_cons_zero, List.set_cons_succ, i64_w, i32_w]
       rfl
      refine done_ (done_of HT_.out (by kernel_rfl)) ?_
      try go_wp2
      go_ret
      exact ⟨z8_3, z8_13⟩

/-- THE ONE PURE STATEMENT of laws_FnTurnBeside: yours. -/
def laws_FnTurnBeside.Pure : Prop := ∀ (l0 : List Int), l0.length ≤ maxLen → l0.length * 1 ≤ 140737488351232 → (∀ x ∈ l0, (Lit.int .u8 x).wf = true) → ∃ k, laws_FnTurnBeside.f k l0 = some true
theorem laws_FnTurnBeside.walk (P : laws_FnTurnBeside.Pure) (a0 : Option Addr) (len0 cap0 : Nat) (z0 : List Int) (w : World) (w0 : (a0 = none ∧ len0 = 0 ∧ cap0 = 0 ∧ z0 = []) ∨ ∃ x, a0 = some x ∧ len0 ≤ cap0 ∧ cap0 ≤ maxLen ∧ z0.length = cap0 ∧ (∀ i, i < z0.length → w.cell? (x.add i) = some (.int .u8 (z0.getD i 0))) ∧ ∀ n ∈ z0, (Lit.int .u8 n).wf = true) (y0 : len0 * 1 ≤ 140737488351232) :
  Calls Try.prog 8 #[.slice a0 len0 cap0] w fun e w' => e = .returned (.bool true) ∧ Below w.heap.size w w' := by
 obtain ⟨l0, rfl, hr0, hm0, hw0, hc0⟩ := ReadsInt.ofRowC w0
 obtain ⟨k, h⟩ := P l0 hm0 y0 hw0
 refine (laws_FnTurnBeside.calls k _ _ l0 true w (Kd.C_of_reads (d := (0 : Int)) (h1 := fun _ => rfl) hr0) hc0 h).mono ?_
 rintro e w' ⟨rfl, hd⟩
 exact ⟨rfl, hd⟩

end Go.Proofs.Ytefkbmhkhpekjaa.PB

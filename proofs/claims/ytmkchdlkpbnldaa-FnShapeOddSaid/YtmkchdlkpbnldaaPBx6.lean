-- Written by this session's wip/myprint.py (the kit's print.py, with hand-written chunks). Lean checks it.
import Derived.Test.YtmkchdlkpbnldaaPBx0
import Derived.Test.YtmkchdlkpbnldaaPBx14
import Derived.Test.YtmkchdlkpbnldaaPBx15
import Derived.Test.YtmkchdlkpbnldaaPBx16
namespace Go.Proofs.Ytmkchdlkpbnldaa.PB
open Go.RowKit Go.Proofs.YtmkchdlkpbnldaaW.PrintWords Go.Proofs.YtmkchdlkpbnldaaW.PrintLast Go.Proofs.YtmkchdlkpbnldaaW.PrintMore
attribute [local go_sem] max2_int min2_int max_two min_two max_three min_three max_four min_four   -- for this text's walks alone
open Go.Proofs.YtmkchdlkpbnldaaMine
set_option linter.unusedVariables false
set_option linter.unusedSimpArgs false

/-! ### impl_ShapeOdd: function 6 -/
theorem shapeOdd_case (n : Nat) (xs ys : List Int) (hn : 1 ≤ n) (h6 : n ≤ 6) (hx : (shapesL.getD n default).2.2.1 = xs) (hy : (shapesL.getD n default).2.2.2 = ys) (hlx : xs.length < 1048577) (hly : ys.length < 1048577) (w : World) :
    Calls Try.prog 6 #[.int .i64 n] w fun e w' => ∃ v0_ v1_ : Value, e = .returned (.tuple #[.agg #[v0_, v1_], .bool true]) ∧ Kd.R (Kd.int .i64) 3 w' w.heap.size (fun k_ => some k_ ≠ (v1_ : Value).ownBlock) v0_ xs ∧ Kd.R (Kd.int .i64) 3 w' w.heap.size (fun k_ => some k_ ≠ (v0_ : Value).ownBlock) v1_ ys ∧ Below w.heap.size w w' := by
  have hi := impl_in.calls n 1 6 true
  have cl := fun A0 c0 l0 w hr0 hc0 hl => slices_Clone_int_int_16.calls A0 c0 l0 l0 w hr0 hc0 (by unfold slices_Clone_int_int_16.f; exact if_pos hl)
  go_enter Try.func6, Try.ntmps6
  go_wp2_with (go_at_call 14; refine park ?_)
  refine ⟨?_⟩
  refine (hi _ (by unfold impl_in.f; rw [if_pos (by omega)]; simp; omega)).mono ?_
  rintro e w' ⟨rfl, hd⟩
  obtain ⟨m, rfl⟩ := hd.out
  clear hi hd
  go_wp2_with (go_at_call 15; refine park ?_)
  refine ⟨?_⟩
  refine (shapes_calls _).mono ?_
  rintro e w1 ⟨g, rfl, hb, hs⟩
  obtain ⟨A1, A2, A3, A4, -, -, h3, h4, -, -, c3, c4⟩ := hs n (by omega)
  clear hs
  rw [hx] at h3 c3
  rw [hy] at h4 c4
  rw [show 4 * n + 2 = n * 4 + 2 by omega] at h3
  rw [show 4 * n + 3 = n * 4 + 3 by omega] at h4
  have HX := am_ hx
  have HY := am_ hy
  clear hx hy
  have hbb : Below w.heap.size w w1 := ⟨hb.os, hb.tape, hb.output, Nat.le_trans (by simp) hb.size, fun i hi => (hb.block i (by simp; omega)).trans (Below.heap_alloc w _ i hi)⟩
  have hblk : w1.heap[w.heap.size]? = some (.cells #[.slice none 0 0, .slice none 0 0] 26 (0, 0)) := (hb.block _ (by simp)).trans (heap_alloc_new w _)
  have hc0 : w1.cell? ⟨w.heap.size, 0, none⟩ = some (.slice none 0 0) := blk_cell hblk 0
  have hc1 : w1.cell? ⟨w.heap.size, 1, none⟩ = some (.slice none 0 0) := blk_cell hblk 1
  clear hb
  go_wp2_with fail
  clear h3 h4
  have hlt : w.heap.size < w1.heap.size := blk_lt hblk
  generalize hB : Obj.cells #[Value.slice A3 xs.length xs.length, Value.slice A4 ys.length ys.length] 26 = BO
  have f0 : (w1.alloc BO).cell? ⟨w1.heap.size, 0, none⟩ = some (.slice A3 xs.length xs.length) := by subst hB; exact blk_cell (heap_alloc_new w1 _) 0
  have f1 : (w1.alloc BO).cell? ⟨w1.heap.size, 1, none⟩ = some (.slice A4 ys.length ys.length) := by subst hB; exact blk_cell (heap_alloc_new w1 _) 1
  have hblk2 : (w1.alloc BO).heap[w.heap.size]? = some (.cells #[.slice none 0 0, .slice none 0 0] 26 (0, 0)) := blk_alloc hblk _
  have k3 : Kd.C (Kd.int .i64) (w1.alloc BO) A3 xs.length xs := Kd.C_below c3 (below_alloc (Below.refl _ _) _)
  have k4 : Kd.C (Kd.int .i64) (w1.alloc BO) A4 ys.length ys := Kd.C_below c4 (below_alloc (Below.refl _ _) _)
  have hb2 : Below w.heap.size w (w1.alloc BO) := below_alloc hbb _
  have hlt2 : w1.heap.size < (w1.alloc BO).heap.size := by simp
  generalize w1.alloc BO = w2 at *
  generalize w1.heap.size = g2 at *
  have hne1 : ¬ (w.heap.size = g2) := by omega
  have hne2 : ¬ (g2 = w.heap.size) := by omega
  clear hbb hc0 hc1 hlt hB c3 c4 hblk
  have HB2 := am_ (below_drew hb2)
  have k3' : Kd.C (Kd.int .i64) w2.drew A3 xs.length xs := k3
  have k4' : Kd.C (Kd.int .i64) w2.drew A4 ys.length ys := k4
  have HB3 := am_ (show w2.drew.heap[w.heap.size]? = some (.cells #[.slice none 0 0, .slice none 0 0] 26 (0, 0)) from hblk2)
  have f0' : w2.drew.cell? ⟨g2, 0, none⟩ = some (.slice A3 xs.length xs.length) := f0
  have f1' : w2.drew.cell? ⟨g2, 1, none⟩ = some (.slice A4 ys.length ys.length) := f1
  clear k3 k4 hblk2 hb2 hlt2
  go_region_held3 (fun W => W.cell? ⟨g2, 0, none⟩ = some (.slice A3 xs.length xs.length) ∧ W.cell? ⟨g2, 1, none⟩ = some (.slice A4 ys.length ys.length)) (go_keep)
    (first
      | (go_at_call 16; (with_reducible refine (cl A3 _ xs w2.drew k3' (Nat.le_refl _) hlx).mono ?_); rintro e w3 ⟨v3, rfl, ho3, hb3⟩; obtain ⟨Ao3, co3, rfl⟩ := Kd.R_slice ho3; have q0 : w3.cell? ⟨g2, 0, none⟩ = some (.slice A3 xs.length xs.length) := pw_cell_below hb3 f0'; have q1 : w3.cell? ⟨g2, 1, none⟩ = some (.slice A4 ys.length ys.length) := pw_cell_below hb3 f1'; have hA := am_ ho3; have hBB := am_ hb3; clear ho3 hb3)
      | (go_at_call 16; (with_reducible refine (cl A4 _ ys _ (Kd.C_below k4' hBB.out) (Nat.le_refl _) hly).mono ?_); rintro e w4 ⟨v4, rfl, ho4, hb4⟩; obtain ⟨Ao4, co4, rfl⟩ := Kd.R_slice ho4; have q0 : w4.cell? ⟨g2, 0, none⟩ = some (.slice A3 xs.length xs.length) := pw_cell_below hb4 (pw_cell_below hBB.out f0'); have q1 : w4.cell? ⟨g2, 1, none⟩ = some (.slice A4 ys.length ys.length) := pw_cell_below hb4 (pw_cell_below hBB.out f1'); have hb5 := blk_below (blk_below HB3.out hBB.out) hb4; have z0 : w4.cell? ⟨w.heap.size, 0, none⟩ = some (.slice none 0 0) := blk_cell hb5 0; have z1 : w4.cell? ⟨w.heap.size, 1, none⟩ = some (.slice none 0 0) := blk_cell hb5 1; have y0 := blk_frozen hb5 0; have y1 := blk_frozen hb5 1; have hB5 := am_ hb5; clear hb5; have hA4 := am_ ho4; have hBB4 := am_ hb4; clear ho4 hb4))
  clear f0' f1' f0 f1 q0 q1 z0 z1 y0 y1
  go_wp2_with fail
  have s0 := blk_set hB5.out 0 (.slice Ao3 xs.length co3)
  have s1 := blk_set s0 1 (.slice Ao4 ys.length co4)
  refine bodyPost_ret (results_ct rfl _ _ w.heap.size 26 #[.slice Ao3 xs.length co3, .slice Ao4 ys.length co4] (0, 0) _ rfl s1 Try.underlying26 rfl (by kernel_rfl)) rfl ?_
  have hsz : w.heap.size ≤ w2.drew.heap.size := HB2.out.size
  have hsz3 : w.heap.size ≤ w3.heap.size := Nat.le_trans hsz hBB.out.size
  have r3 := Kd.R_elder' hA.out (Kd.R_base hA4.out) hBB4.out
  have r4 := Kd.R_new' hA4.out (Kd.R_lt hA.out)
  have t3 : ∀ k, (True ∧ some k ≠ (Value.slice Ao4 ys.length co4).ownBlock) → _ := fun k h => h
  have hn3 : some w.heap.size ≠ (Value.slice Ao3 xs.length co3).ownBlock := fun e => by have := Kd.R_base hA.out _ e.symm; have := blk_lt HB3.out; omega
  have hn4 : some w.heap.size ≠ (Value.slice Ao4 ys.length co4).ownBlock := fun e => by have := Kd.R_base hA4.out _ e.symm; have := blk_lt HB3.out; have := hBB.out.size; omega
  refine ⟨_, _, rfl, ?_, ?_, ?_⟩
  · have a := Kd.R_far (p := ⟨w.heap.size, 1, none⟩) (Kd.R_far (p := ⟨w.heap.size, 0, none⟩) (Kd.R_far1 r3 rfl hn3) (fun k hk => hk.2) (.slice Ao3 xs.length co3)) (fun k hk => hk.2) (.slice Ao4 ys.length co4)
    exact Kd.R_mono (Kd.R_lower a hsz) (fun k hk => hk.1.2)
  · have a := Kd.R_far (p := ⟨w.heap.size, 1, none⟩) (Kd.R_far (p := ⟨w.heap.size, 0, none⟩) (Kd.R_far1 r4 rfl hn4) (fun k hk => hk.2) (.slice Ao3 xs.length co3)) (fun k hk => hk.2) (.slice Ao4 ys.length co4)
    exact Kd.R_mono (Kd.R_lower a hsz3) (fun k hk => hk.1.2)
  exact below_set (below_set (below_then (below_then HB2.out hsz hBB.out) hsz3 hBB4.out) (Nat.le_refl _)) (Nat.le_refl _)
def impl_ShapeOdd.f (a0 : Int) : Option (List Int × List Int × Bool) := if 1 ≤ a0 ∧ a0 ≤ 6 then some ((shapesL.getD a0.toNat default).2.2.1, (shapesL.getD a0.toNat default).2.2.2, true) else some ([], [], false)
theorem shapesL_short : ∀ n, n < 7 → (shapesL.getD n default).2.2.1.length < 1048577 ∧ (shapesL.getD n default).2.2.2.length < 1048577 := by decide
theorem impl_ShapeOdd.calls (a0 : Int) (r1 : List Int) (r2 : List Int) (r3 : Bool) (w : World) (h : impl_ShapeOdd.f a0 = some (r1, r2, r3)) :
  Calls Try.prog 6 #[.int .i64 a0] w fun e w' => ∃ v0_ v1_ : Value, e = .returned (.tuple #[.agg #[v0_, v1_], .bool r3]) ∧ Kd.R (Kd.int .i64) 3 w' w.heap.size (fun k_ => some k_ ≠ (v1_ : Value).ownBlock) v0_ r1 ∧ Kd.R (Kd.int .i64) 3 w' w.heap.size (fun k_ => some k_ ≠ (v0_ : Value).ownBlock) v1_ r2 ∧ Below w.heap.size w w' := by
 unfold impl_ShapeOdd.f at h
 split at h
 ·rename_i hc
  obtain ⟨n, rfl⟩ := Int.eq_ofNat_of_zero_le (show 0 ≤ a0 by omega)
  simp only [Option.some.injEq, Prod.mk.injEq, Int.toNat_natCast] at h
  obtain ⟨h1, h2, rfl⟩ := h
  have hs := shapesL_short n (by omega)
  exact shapeOdd_case n r1 r2 (by omega) (by omega) h1 h2 (by rw [← h1]; exact hs.1) (by rw [← h2]; exact hs.2) w
 rename_i hc
 simp only [Option.some.injEq, Prod.mk.injEq] at h
 obtain ⟨rfl, rfl, rfl⟩ := h
 have hi := impl_in.calls a0 1 6 false
 go_enter Try.func6, Try.ntmps6
 go_wp2_with (go_at_call 14; refine park ?_)
 refine ⟨?_⟩
 refine (hi _ (by unfold impl_in.f; split <;> simp; omega)).mono ?_
 rintro e w' ⟨rfl, hd⟩
 obtain ⟨m, rfl⟩ := hd.out
 clear hi hd
 go_wp2_with fail
 refine bodyPost_ret (results_ct rfl _ _ w.heap.size 26 #[.slice none 0 0, .slice none 0 0] (0, 0) _ rfl (blk_set (blk_set (blk_drewN (heap_alloc_new w _) m) 0 _) 1 _) Try.underlying26 rfl (by kernel_rfl)) rfl ?_
 exact ⟨_, _, rfl, Kd.R_nil _ _ _ _ _, Kd.R_nil _ _ _ _ _, below_set (below_set (pw_below_drewN (below_alloc (Below.refl _ _) _) m) (Nat.le_refl _)) (Nat.le_refl _)⟩


end Go.Proofs.Ytmkchdlkpbnldaa.PB

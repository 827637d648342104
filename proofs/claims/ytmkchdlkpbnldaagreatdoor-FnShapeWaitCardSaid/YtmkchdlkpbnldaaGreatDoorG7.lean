/- What the laws share, part 7: PBx22. -/
import Derived.Test.YtmkchdlkpbnldaaGreatDoorG4
namespace Go.Proofs.YtmkchdlkpbnldaaGreatDoor.PB
open Go.RowKit Go.Proofs.YtmkchdlkpbnldaaGreatDoorW.PrintWords Go.Proofs.YtmkchdlkpbnldaaGreatDoorW.PrintLast Go.Proofs.YtmkchdlkpbnldaaGreatDoorW.PrintMore
attribute [local go_sem] max2_int min2_int max_two min_two max_three min_three max_four min_four
open Go.Proofs.YtmkchdlkpbnldaaGreatDoorMine
set_option linter.unusedVariables false
set_option linter.unusedSimpArgs false
def shapesObjs (B : Nat) : List Obj := [
  .cells #[.int .i64 1, .int .i64 0, .int .i64 1, .bool false] 79,
  .cells #[.int .i64 2, .int .i64 1, .int .i64 0, .bool false] 79,
  .cells #[.int .i64 1, .int .i64 0, .int .i64 1, .bool false, .int .i64 2, .int .i64 1, .int .i64 0, .bool false] 79,
  .cells #[.int .i64 1, .int .i64 1, .int .i64 1, .bool false] 79,
  .cells #[.int .i64 2, .int .i64 0, .int .i64 0, .bool false] 79,
  .cells #[.int .i64 1, .int .i64 1, .int .i64 1, .bool false, .int .i64 2, .int .i64 0, .int .i64 0, .bool false] 79,
  .cells #[.int .i64 0, .int .i64 0] 3,
  .cells #[.int .i64 1, .int .i64 1, .int .i64 0] 3,
  .cells #[.int .i64 1, .int .i64 0, .int .i64 1, .bool false] 79,
  .cells #[.int .i64 1, .int .i64 0, .int .i64 1, .bool false] 79,
  .cells #[.int .i64 1, .int .i64 0, .int .i64 1, .bool true] 79,
  .cells #[.int .i64 1, .int .i64 1, .int .i64 1, .bool false] 79,
  .cells #[.int .i64 1, .int .i64 0, .int .i64 1, .bool true, .int .i64 1, .int .i64 1, .int .i64 1, .bool false] 79,
  .cells #[.int .i64 2, .int .i64 1, .int .i64 0, .bool false] 79,
  .cells #[.int .i64 2, .int .i64 0, .int .i64 0, .bool false] 79,
  .cells #[.int .i64 2, .int .i64 0, .int .i64 0, .bool false] 79,
  .cells #[.int .i64 2, .int .i64 0, .int .i64 0, .bool true] 79,
  .cells #[.int .i64 2, .int .i64 1, .int .i64 0, .bool false, .int .i64 2, .int .i64 0, .int .i64 0, .bool true] 79,
  .cells #[.int .i64 1, .int .i64 0] 3,
  .cells #[.int .i64 1, .int .i64 1, .int .i64 0] 3,
  .cells #[.int .i64 2, .int .i64 0, .int .i64 0, .bool false] 79,
  .cells #[.int .i64 1, .int .i64 1, .int .i64 1, .bool false] 79,
  .cells #[.int .i64 2, .int .i64 0, .int .i64 0, .bool false, .int .i64 1, .int .i64 1, .int .i64 1, .bool false] 79,
  .cells #[.int .i64 2, .int .i64 1, .int .i64 0, .bool false] 79,
  .cells #[.int .i64 1, .int .i64 0, .int .i64 1, .bool false] 79,
  .cells #[.int .i64 2, .int .i64 1, .int .i64 0, .bool false, .int .i64 1, .int .i64 0, .int .i64 1, .bool false] 79,
  .cells #[.int .i64 1, .int .i64 1] 3,
  .cells #[.int .i64 1, .int .i64 1, .int .i64 0] 3,
  .cells #[.int .i64 1, .int .i64 0, .int .i64 1, .bool false] 79,
  .cells #[.int .i64 1, .int .i64 0, .int .i64 1, .bool false] 79,
  .cells #[.int .i64 2, .int .i64 0, .int .i64 0, .bool false] 79,
  .cells #[.int .i64 2, .int .i64 0, .int .i64 0, .bool false] 79,
  .cells #[.int .i64 2, .int .i64 0, .int .i64 0, .bool false, .int .i64 2, .int .i64 0, .int .i64 0, .bool false] 79,
  .cells #[.int .i64 1, .int .i64 0] 3,
  .cells #[.int .i64 1, .int .i64 0, .int .i64 0] 3,
  .cells #[.int .i64 1, .int .i64 0, .int .i64 2, .bool false] 79,
  .cells #[.int .i64 1, .int .i64 1, .int .i64 1, .bool false] 79,
  .cells #[.int .i64 1, .int .i64 0, .int .i64 2, .bool false, .int .i64 1, .int .i64 1, .int .i64 1, .bool false] 79,
  .cells #[.int .i64 1, .int .i64 1, .int .i64 2, .bool false] 79,
  .cells #[.int .i64 1, .int .i64 0, .int .i64 1, .bool false] 79,
  .cells #[.int .i64 1, .int .i64 1, .int .i64 2, .bool false, .int .i64 1, .int .i64 0, .int .i64 1, .bool false] 79,
  .cells #[.int .i64 2, .int .i64 2, .int .i64 0] 3,
  .cells #[.int .i64 7, .int .i64 0, .int .i64 0, .bool false] 79,
  .cells #[.int .i64 2, .int .i64 1, .int .i64 0, .bool false] 79,
  .cells #[.int .i64 2, .int .i64 1, .int .i64 0, .bool false] 79,
  .cells #[.int .i64 2, .int .i64 1, .int .i64 0, .bool true] 79,
  .cells #[.int .i64 2, .int .i64 0, .int .i64 0, .bool false] 79,
  .cells #[.int .i64 2, .int .i64 0, .int .i64 0, .bool false] 79,
  .cells #[.int .i64 2, .int .i64 0, .int .i64 0, .bool true] 79,
  .cells #[.int .i64 8, .int .i64 0, .int .i64 0, .bool false] 79,
  .cells #[.int .i64 7, .int .i64 0, .int .i64 0, .bool false, .int .i64 2, .int .i64 1, .int .i64 0, .bool true, .int .i64 2, .int .i64 0, .int .i64 0, .bool true, .int .i64 8, .int .i64 0, .int .i64 0, .bool false] 79,
  .cells #[.int .i64 1, .int .i64 0, .int .i64 1, .bool false] 79,
  .cells #[.int .i64 1, .int .i64 0, .int .i64 1, .bool false] 79,
  .cells #[.int .i64 1, .int .i64 0, .int .i64 1, .bool true] 79,
  .cells #[.int .i64 9, .int .i64 0, .int .i64 0, .bool false] 79,
  .cells #[.int .i64 1, .int .i64 1, .int .i64 1, .bool false] 79,
  .cells #[.int .i64 1, .int .i64 0, .int .i64 1, .bool true, .int .i64 9, .int .i64 0, .int .i64 0, .bool false, .int .i64 1, .int .i64 1, .int .i64 1, .bool false] 79,
  .cells #[.int .i64 1, .int .i64 0] 3,
  .cells #[.int .i64 1, .int .i64 1, .int .i64 0] 3,
  .cells #[.slice none 0 0, .slice none 0 0, .slice none 0 0, .slice none 0 0, .slice (some ⟨B + 2, 0, none⟩) 2 2, .slice (some ⟨B + 5, 0, none⟩) 2 2, .slice (some ⟨B + 6, 0, none⟩) 2 2, .slice (some ⟨B + 7, 0, none⟩) 3 3, .slice (some ⟨B + 12, 0, none⟩) 2 2, .slice (some ⟨B + 17, 0, none⟩) 2 2, .slice (some ⟨B + 18, 0, none⟩) 2 2, .slice (some ⟨B + 19, 0, none⟩) 3 3, .slice (some ⟨B + 22, 0, none⟩) 2 2, .slice (some ⟨B + 25, 0, none⟩) 2 2, .slice (some ⟨B + 26, 0, none⟩) 2 2, .slice (some ⟨B + 27, 0, none⟩) 3 3, .slice (some ⟨B + 29, 0, none⟩) 1 1, .slice (some ⟨B + 32, 0, none⟩) 2 2, .slice (some ⟨B + 33, 0, none⟩) 2 2, .slice (some ⟨B + 34, 0, none⟩) 3 3, .slice (some ⟨B + 37, 0, none⟩) 2 2, .slice (some ⟨B + 40, 0, none⟩) 2 2, .slice none 0 0, .slice (some ⟨B + 41, 0, none⟩) 3 3, .slice (some ⟨B + 50, 0, none⟩) 4 4, .slice (some ⟨B + 56, 0, none⟩) 3 3, .slice (some ⟨B + 57, 0, none⟩) 2 2, .slice (some ⟨B + 58, 0, none⟩) 3 3] 51]
def shapesL : List (List S79 × List S79 × List Int × List Int) := [
  ([], [], [], []),
  ([⟨⟨1, 0, 1⟩, false⟩, ⟨⟨2, 1, 0⟩, false⟩], [⟨⟨1, 1, 1⟩, false⟩, ⟨⟨2, 0, 0⟩, false⟩], [0, 0], [1, 1, 0]),
  ([⟨⟨1, 0, 1⟩, true⟩, ⟨⟨1, 1, 1⟩, false⟩], [⟨⟨2, 1, 0⟩, false⟩, ⟨⟨2, 0, 0⟩, true⟩], [1, 0], [1, 1, 0]),
  ([⟨⟨2, 0, 0⟩, false⟩, ⟨⟨1, 1, 1⟩, false⟩], [⟨⟨2, 1, 0⟩, false⟩, ⟨⟨1, 0, 1⟩, false⟩], [1, 1], [1, 1, 0]),
  ([⟨⟨1, 0, 1⟩, false⟩], [⟨⟨2, 0, 0⟩, false⟩, ⟨⟨2, 0, 0⟩, false⟩], [1, 0], [1, 0, 0]),
  ([⟨⟨1, 0, 2⟩, false⟩, ⟨⟨1, 1, 1⟩, false⟩], [⟨⟨1, 1, 2⟩, false⟩, ⟨⟨1, 0, 1⟩, false⟩], [], [2, 2, 0]),
  ([⟨⟨7, 0, 0⟩, false⟩, ⟨⟨2, 1, 0⟩, true⟩, ⟨⟨2, 0, 0⟩, true⟩, ⟨⟨8, 0, 0⟩, false⟩], [⟨⟨1, 0, 1⟩, true⟩, ⟨⟨9, 0, 0⟩, false⟩, ⟨⟨1, 1, 1⟩, false⟩], [1, 0], [1, 1, 0])]
theorem shapes_c1 (p : Int) (w : World) : Calls Tryz.prog 35 #[.int .i64 p] w fun e w' => e = .returned (.agg #[.int .i64 1, .int .i64 p, .int .i64 1, .bool false]) ∧ w' = w.alloc (.cells #[.int .i64 1, .int .i64 p, .int .i64 1, .bool false] 79) := by
  go_enter Tryz.func35, Tryz.ntmps35
  go_wp2
  exact bodyPost_ret (v := .agg #[.int .i64 1, .int .i64 p, .int .i64 1, .bool false]) (by simp [results, Tryz.results35, go_sem]) rfl ⟨rfl, rfl⟩
theorem shapes_c2 (p : Int) (w : World) : Calls Tryz.prog 36 #[.int .i64 p] w fun e w' => e = .returned (.agg #[.int .i64 1, .int .i64 p, .int .i64 2, .bool false]) ∧ w' = w.alloc (.cells #[.int .i64 1, .int .i64 p, .int .i64 2, .bool false] 79) := by
  go_enter Tryz.func36, Tryz.ntmps36
  go_wp2
  exact bodyPost_ret (v := .agg #[.int .i64 1, .int .i64 p, .int .i64 2, .bool false]) (by simp [results, Tryz.results36, go_sem]) rfl ⟨rfl, rfl⟩
theorem shapes_c3 (p : Int) (w : World) : Calls Tryz.prog 37 #[.int .i64 p] w fun e w' => e = .returned (.agg #[.int .i64 2, .int .i64 p, .int .i64 0, .bool false]) ∧ w' = w.alloc (.cells #[.int .i64 2, .int .i64 p, .int .i64 0, .bool false] 79) := by
  go_enter Tryz.func37, Tryz.ntmps37
  go_wp2
  exact bodyPost_ret (v := .agg #[.int .i64 2, .int .i64 p, .int .i64 0, .bool false]) (by simp [results, Tryz.results37, go_sem]) rfl ⟨rfl, rfl⟩
theorem shapes_c4 (p : Int) (w : World) : Calls Tryz.prog 38 #[.int .i64 p] w fun e w' => e = .returned (.agg #[.int .i64 p, .int .i64 0, .int .i64 0, .bool false]) ∧ w' = w.alloc (.cells #[.int .i64 p, .int .i64 0, .int .i64 0, .bool false] 79) := by
  go_enter Tryz.func38, Tryz.ntmps38
  go_wp2
  exact bodyPost_ret (v := .agg #[.int .i64 p, .int .i64 0, .int .i64 0, .bool false]) (by simp [results, Tryz.results38, go_sem]) rfl ⟨rfl, rfl⟩
theorem shapes_c5 (k p v : Int) (b : Bool) (w : World) : Calls Tryz.prog 39 #[.agg #[.int .i64 k, .int .i64 p, .int .i64 v, .bool b]] w fun e w' => e = .returned (.agg #[.int .i64 k, .int .i64 p, .int .i64 v, .bool true]) ∧ w' = (w.alloc (.cells #[.int .i64 k, .int .i64 p, .int .i64 v, .bool b] 79)).alloc (.cells #[.int .i64 k, .int .i64 p, .int .i64 v, .bool true] 79) := by
  go_enter Tryz.func39, Tryz.ntmps39
  go_wp2
  exact bodyPost_ret (v := .agg #[.int .i64 k, .int .i64 p, .int .i64 v, .bool true]) (by simp [results, Tryz.results39, go_sem]) rfl ⟨rfl, rfl⟩
set_option maxRecDepth 100000 in
set_option maxHeartbeats 8000000 in
theorem shapes_run (w : World) : Calls Tryz.prog 22 #[] w fun e w' => e = .returned (.slice (some ⟨w.heap.size + 59, 0, none⟩) 7 7) ∧ w' = allocs w (shapesObjs w.heap.size) := by
  go_enter Tryz.func22, Tryz.ntmps22
  go_wp2_with (first
    | (go_at_call 35; refine (shapes_c1 _ _).mono ?_; rintro e w' ⟨rfl, rfl⟩)
    | (go_at_call 36; refine (shapes_c2 _ _).mono ?_; rintro e w' ⟨rfl, rfl⟩)
    | (go_at_call 37; refine (shapes_c3 _ _).mono ?_; rintro e w' ⟨rfl, rfl⟩)
    | (go_at_call 38; refine (shapes_c4 _ _).mono ?_; rintro e w' ⟨rfl, rfl⟩)
    | (go_at_call 39; refine (shapes_c5 _ _ _ _ _).mono ?_; rintro e w' ⟨rfl, rfl⟩))
  go_ret
  exact ⟨rfl, rfl⟩
def ShapesAt (g : Nat) (W : World) (i : Nat) (r : List S79 × List S79 × List Int × List Int) : Prop :=
  ∃ A1 A2 A3 A4 : Option Addr, W.cell? ⟨g, 4 * i, none⟩ = some (.slice A1 r.1.length r.1.length) ∧ W.cell? ⟨g, 4 * i + 1, none⟩ = some (.slice A2 r.2.1.length r.2.1.length) ∧
    W.cell? ⟨g, 4 * i + 2, none⟩ = some (.slice A3 r.2.2.1.length r.2.2.1.length) ∧ W.cell? ⟨g, 4 * i + 3, none⟩ = some (.slice A4 r.2.2.2.length r.2.2.2.length) ∧
    Kd.C k79 W A1 r.1.length r.1 ∧ Kd.C k79 W A2 r.2.1.length r.2.1 ∧ Kd.C (Kd.int .i64) W A3 r.2.2.1.length r.2.2.1 ∧ Kd.C (Kd.int .i64) W A4 r.2.2.2.length r.2.2.2
theorem part_reps (W : World) (xs : List S79) : Reps (k79.K W) 4 xs (xs.flatMap fun x => [.int .i64 x.f0.f0, .int .i64 x.f0.f1, .int .i64 x.f0.f2, .bool x.f1]) := by
  induction xs with
  | nil => exact Reps.none _ _
  | cons x xs ih => exact Reps.cons_ (k79_mk W x) rfl ih
theorem part_C {W : World} {b : Nat} (xs : List S79) {cs : Array Value} (hb : W.heap[b]? = some (.cells cs 79 (0, 0))) (he : cs.toList = xs.flatMap fun x => [.int .i64 x.f0.f0, .int .i64 x.f0.f1, .int .i64 x.f0.f2, .bool x.f1]) (hn : xs.length ≤ 1000) : Kd.C k79 W (some ⟨b, 0, none⟩) xs.length xs :=
  C_of_blk k79 hb (by rw [he]; exact part_reps W xs) hn
theorem shapes_at0 (w : World) : ShapesAt (w.heap.size + 59) (allocs w (shapesObjs w.heap.size)) 0 (shapesL.getD 0 default) :=
  ⟨none, none, none, none, cell_allocs w _ 59 rfl 0 _ rfl, cell_allocs w _ 59 rfl 1 _ rfl, cell_allocs w _ 59 rfl 2 _ rfl, cell_allocs w _ 59 rfl 3 _ rfl, Kd.C_nil _ _, Kd.C_nil _ _, Kd.C_nil _ _, Kd.C_nil _ _⟩
theorem shapes_at1 (w : World) : ShapesAt (w.heap.size + 59) (allocs w (shapesObjs w.heap.size)) 1 (shapesL.getD 1 default) :=
  ⟨some ⟨w.heap.size + 2, 0, none⟩, some ⟨w.heap.size + 5, 0, none⟩, some ⟨w.heap.size + 6, 0, none⟩, some ⟨w.heap.size + 7, 0, none⟩, cell_allocs w _ 59 rfl 4 _ rfl, cell_allocs w _ 59 rfl 5 _ rfl, cell_allocs w _ 59 rfl 6 _ rfl, cell_allocs w _ 59 rfl 7 _ rfl, part_C (shapesL.getD 1 default).1 (allocs_at w _ 2 _ rfl) rfl (by decide), part_C (shapesL.getD 1 default).2.1 (allocs_at w _ 5 _ rfl) rfl (by decide), int_C (shapesL.getD 1 default).2.2.1 (allocs_at w _ 6 _ rfl) rfl (by decide), int_C (shapesL.getD 1 default).2.2.2 (allocs_at w _ 7 _ rfl) rfl (by decide)⟩
theorem shapes_at2 (w : World) : ShapesAt (w.heap.size + 59) (allocs w (shapesObjs w.heap.size)) 2 (shapesL.getD 2 default) :=
  ⟨some ⟨w.heap.size + 12, 0, none⟩, some ⟨w.heap.size + 17, 0, none⟩, some ⟨w.heap.size + 18, 0, none⟩, some ⟨w.heap.size + 19, 0, none⟩, cell_allocs w _ 59 rfl 8 _ rfl, cell_allocs w _ 59 rfl 9 _ rfl, cell_allocs w _ 59 rfl 10 _ rfl, cell_allocs w _ 59 rfl 11 _ rfl, part_C (shapesL.getD 2 default).1 (allocs_at w _ 12 _ rfl) rfl (by decide), part_C (shapesL.getD 2 default).2.1 (allocs_at w _ 17 _ rfl) rfl (by decide), int_C (shapesL.getD 2 default).2.2.1 (allocs_at w _ 18 _ rfl) rfl (by decide), int_C (shapesL.getD 2 default).2.2.2 (allocs_at w _ 19 _ rfl) rfl (by decide)⟩
theorem shapes_at3 (w : World) : ShapesAt (w.heap.size + 59) (allocs w (shapesObjs w.heap.size)) 3 (shapesL.getD 3 default) :=
  ⟨some ⟨w.heap.size + 22, 0, none⟩, some ⟨w.heap.size + 25, 0, none⟩, some ⟨w.heap.size + 26, 0, none⟩, some ⟨w.heap.size + 27, 0, none⟩, cell_allocs w _ 59 rfl 12 _ rfl, cell_allocs w _ 59 rfl 13 _ rfl, cell_allocs w _ 59 rfl 14 _ rfl, cell_allocs w _ 59 rfl 15 _ rfl, part_C (shapesL.getD 3 default).1 (allocs_at w _ 22 _ rfl) rfl (by decide), part_C (shapesL.getD 3 default).2.1 (allocs_at w _ 25 _ rfl) rfl (by decide), int_C (shapesL.getD 3 default).2.2.1 (allocs_at w _ 26 _ rfl) rfl (by decide), int_C (shapesL.getD 3 default).2.2.2 (allocs_at w _ 27 _ rfl) rfl (by decide)⟩
theorem shapes_at4 (w : World) : ShapesAt (w.heap.size + 59) (allocs w (shapesObjs w.heap.size)) 4 (shapesL.getD 4 default) :=
  ⟨some ⟨w.heap.size + 29, 0, none⟩, some ⟨w.heap.size + 32, 0, none⟩, some ⟨w.heap.size + 33, 0, none⟩, some ⟨w.heap.size + 34, 0, none⟩, cell_allocs w _ 59 rfl 16 _ rfl, cell_allocs w _ 59 rfl 17 _ rfl, cell_allocs w _ 59 rfl 18 _ rfl, cell_allocs w _ 59 rfl 19 _ rfl, part_C (shapesL.getD 4 default).1 (allocs_at w _ 29 _ rfl) rfl (by decide), part_C (shapesL.getD 4 default).2.1 (allocs_at w _ 32 _ rfl) rfl (by decide), int_C (shapesL.getD 4 default).2.2.1 (allocs_at w _ 33 _ rfl) rfl (by decide), int_C (shapesL.getD 4 default).2.2.2 (allocs_at w _ 34 _ rfl) rfl (by decide)⟩
theorem shapes_at5 (w : World) : ShapesAt (w.heap.size + 59) (allocs w (shapesObjs w.heap.size)) 5 (shapesL.getD 5 default) :=
  ⟨some ⟨w.heap.size + 37, 0, none⟩, some ⟨w.heap.size + 40, 0, none⟩, none, some ⟨w.heap.size + 41, 0, none⟩, cell_allocs w _ 59 rfl 20 _ rfl, cell_allocs w _ 59 rfl 21 _ rfl, cell_allocs w _ 59 rfl 22 _ rfl, cell_allocs w _ 59 rfl 23 _ rfl, part_C (shapesL.getD 5 default).1 (allocs_at w _ 37 _ rfl) rfl (by decide), part_C (shapesL.getD 5 default).2.1 (allocs_at w _ 40 _ rfl) rfl (by decide), Kd.C_nil _ _, int_C (shapesL.getD 5 default).2.2.2 (allocs_at w _ 41 _ rfl) rfl (by decide)⟩
theorem shapes_at6 (w : World) : ShapesAt (w.heap.size + 59) (allocs w (shapesObjs w.heap.size)) 6 (shapesL.getD 6 default) :=
  ⟨some ⟨w.heap.size + 50, 0, none⟩, some ⟨w.heap.size + 56, 0, none⟩, some ⟨w.heap.size + 57, 0, none⟩, some ⟨w.heap.size + 58, 0, none⟩, cell_allocs w _ 59 rfl 24 _ rfl, cell_allocs w _ 59 rfl 25 _ rfl, cell_allocs w _ 59 rfl 26 _ rfl, cell_allocs w _ 59 rfl 27 _ rfl, part_C (shapesL.getD 6 default).1 (allocs_at w _ 50 _ rfl) rfl (by decide), part_C (shapesL.getD 6 default).2.1 (allocs_at w _ 56 _ rfl) rfl (by decide), int_C (shapesL.getD 6 default).2.2.1 (allocs_at w _ 57 _ rfl) rfl (by decide), int_C (shapesL.getD 6 default).2.2.2 (allocs_at w _ 58 _ rfl) rfl (by decide)⟩
theorem shapes_calls (w : World) : Calls Tryz.prog 22 #[] w fun e w' => ∃ g : Nat, e = .returned (.slice (some ⟨g, 0, none⟩) 7 7) ∧ Below w.heap.size w w' ∧ ∀ i, i < 7 → ShapesAt g w' i (shapesL.getD i default) := by
 refine (shapes_run w).mono ?_
 rintro e w' ⟨rfl, rfl⟩
 refine ⟨_, rfl, allocs_below w _, fun i hi => ?_⟩
 match i, hi with
 | 0, _ => exact shapes_at0 w
 | 1, _ => exact shapes_at1 w
 | 2, _ => exact shapes_at2 w
 | 3, _ => exact shapes_at3 w
 | 4, _ => exact shapes_at4 w
 | 5, _ => exact shapes_at5 w
 | 6, _ => exact shapes_at6 w
end Go.Proofs.YtmkchdlkpbnldaaGreatDoor.PB

-- Written by this session's wip/myprint.py (the kit's print.py, with hand-written chunks). Lean checks it.
import Derived.Test.YtefkbmhkhpekjaaPBx0
import Derived.Test.YtefkbmhkhpekjaaPBx80
namespace Go.Proofs.Ytefkbmhkhpekjaa.PB
open Go.RowKit Go.Proofs.YtefkbmhkhpekjaaW.PrintWords Go.Proofs.YtefkbmhkhpekjaaW.PrintLast Go.Proofs.YtefkbmhkhpekjaaW.PrintMore
attribute [local go_sem] max2_int min2_int max_two min_two max_three min_three max_four min_four   -- for this text's walks alone
open Go.Proofs.YtefkbmhkhpekjaaMine
set_option linter.unusedVariables false
set_option linter.unusedSimpArgs false

/-! ### laws_markProg: function 33 -/
set_option maxRecDepth 100000 in
set_option maxHeartbeats 8000000 in
theorem laws_markProg.calls (k : Nat) (P0 : Nat → Prop) (v : Value) (l0 : List (List S85)) (a1 r1 : Int) (r2 : List (List S85)) (w0 w : World) (hB : Below w0.heap.size w0 w) (ho : Kd.S (Kd.slice 85 k85) 82 w w0.heap.size P0 v l0) (h : laws_markDoSS.f k l0 a1 = some (r1, r2)) :
  Calls Try.prog 33 #[.agg #[v], .int .i64 a1] w fun e w' => e = .returned (.int .i64 r1) ∧ Kd.S (Kd.slice 85 k85) 82 w' w0.heap.size (fun k => P0 k ∨ w.heap.size ≤ k) v r2 ∧ Below w0.heap.size w0 w' ∧ Kept w w' P0 := by
 obtain ⟨A, c, rfl⟩ := Kd.S_slice ho
 have HO := am_ ho
 have HB := am_ hB
 clear ho hB
 go_enter Try.func33, Try.ntmps33
 go_wp2_with (go_at_call 80; refine park ?_)
 refine ⟨?_⟩
 refine (laws_markDoSS.calls k P0 _ l0 a1 r1 r2 w0 _ (below_alloc HB.out _) (Kd.S_alloc HO.out _) h).mono ?_
 rintro e w2 ⟨rfl, hS, hb, hk⟩
 have HS := am_ hS
 have HBn := am_ hb
 have HKn := am_ ((Kept.of_below (below_alloc (Below.refl w.heap.size w) _) P0).then_ hk (fun k hk => .inl hk))
 clear hS hb hk
 go_wp2_with fail
 go_ret
 exact ⟨rfl, Kd.S_mono HS.out (fun k hk => hk.imp id (fun h => by rw [World.size_alloc] at h; omega)), HBn.out, HKn.out⟩


end Go.Proofs.Ytefkbmhkhpekjaa.PB

/- math/bits.Len of a number up to 12. -/
import Derived.Test.YtmkchdlkpbnldaaSorted
namespace Go.Proofs.Ytmkchdlkpbnldaa.PB
open Go.RowKit Go.Proofs.YtmkchdlkpbnldaaW.PrintWords Go.Proofs.YtmkchdlkpbnldaaW.PrintLast Go.Proofs.YtmkchdlkpbnldaaW.PrintMore Go.Proofs.YtmkchdlkpbnldaaMine Go.Shelf
set_option linter.unusedVariables false
set_option linter.unusedSimpArgs false
set_option maxRecDepth 100000 in
set_option maxHeartbeats 2000000 in
theorem len64_small (n : Int) (h0 : 0 ≤ n) (h1 : n ≤ 12) (w : World) :
    Calls Try.prog 73 #[.int .u64 n] w fun e w' => ∃ v : Int, e = .returned (.int .i64 v) ∧ 0 ≤ v ∧ v ≤ 4 ∧ w' = w := by
  have hn : n = 0 ∨ n = 1 ∨ n = 2 ∨ n = 3 ∨ n = 4 ∨ n = 5 ∨ n = 6 ∨ n = 7 ∨ n = 8 ∨ n = 9 ∨ n = 10 ∨ n = 11 ∨ n = 12 := by omega
  clear h0 h1
  go_enter Try.func73, Try.ntmps73
  rcases hn with rfl | rfl | rfl | rfl | rfl | rfl | rfl | rfl | rfl | rfl | rfl | rfl | rfl <;> go_wp2_with fail
  all_goals go_ret
  all_goals exact ⟨_, rfl, by decide +kernel, by decide +kernel, rfl⟩
set_option maxRecDepth 100000 in
set_option maxHeartbeats 2000000 in
theorem len_small (n : Int) (h0 : 0 ≤ n) (h1 : n ≤ 12) (w : World) :
    Calls Try.prog 62 #[.int .u64 n] w fun e w' => ∃ v : Int, e = .returned (.int .i64 v) ∧ 0 ≤ v ∧ v ≤ 4 ∧ w' = w := by
  go_enter Try.func62, Try.ntmps62
  go_wp2_with (go_at_call 73; refine park ?_)
  refine ⟨?_⟩
  refine (len64_small n h0 h1 w).mono ?_
  rintro e w' ⟨v, rfl, hv0, hv1, rfl⟩
  go_wp2_with fail
  go_ret
  exact ⟨v, rfl, hv0, hv1, rfl⟩
end Go.Proofs.Ytmkchdlkpbnldaa.PB

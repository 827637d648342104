/- What TurnThreads answers is what the reference says (the law FnExactTurnThreads), for all arguments: the facts along the law's one way. No condition. -/
import Derived.Test.YtefkbmhkhpekjaaJFnExactTurnThreadsx0
import Derived.Test.YtefkbmhkhpekjaaJFnExactTurnThreadsyExactProg
import Derived.Test.YtefkbmhkhpekjaaJFnExactTurnThreadsyExactRow
import Derived.Test.YtefkbmhkhpekjaaJFnExactTurnThreadsyTurnOk
import Derived.Test.YtefkbmhkhpekjaaJFnExactTurnThreadsyTurnSpec
namespace Go.Proofs.Ytefkbmhkhpekjaa.Pure
open Go.RowKit Go.Proofs.Ytefkbmhkhpekjaa.PB Go.Proofs.YtefkbmhkhpekjaaW.PrintWords Go.Proofs.YtefkbmhkhpekjaaW.PrintLast
set_option linter.unusedVariables false

theorem iThreadsM (p : List (List S85)) (hp : Mid p) (row : List Int) (hr : row.length ≤ 1048576) : Ev (fun k => impl_TurnThreads.f k p row) (turned p row) := by
  by_cases h : p.length ≤ 3
  · exact iTurn0 p (hp.short h) row hr
  · unfold impl_TurnThreads.f turned
    have ho := okP_more h
    refine Ev.bind (iProgM p hp) ?_
    simp only [ho, Bool.false_eq_true, if_false, false_and]
    refine Ev.succ ?_
    simp only [impl_TurnThreads.j0, if_true]
    exact Ev.const
theorem sThreadsM (p : List (List S85)) (hp : Mid p) (row : List Int) (hr : row.length ≤ 1048576) : Ev (fun k => spec_TurnThreads.f k p row) (turned p row) := by
  by_cases h : p.length ≤ 3
  · exact sTurn0 p (hp.short h) row hr
  · unfold spec_TurnThreads.f turned
    have ho := okP_more h
    refine Ev.bind (sProgM p hp) ?_
    simp only [ho, Bool.false_eq_true, if_false, false_and]
    refine Ev.succ ?_
    simp only [spec_TurnThreads.j0, if_true]
    exact Ev.const
theorem turned_mid {p : List (List S85)} (hp : Mid p) (row : List Int) : Mid (turned p row).1 := by
  unfold turned
  split
  · rename_i hc
    have hlen := row_len hc.2
    refine ⟨by have := hp.1; simp [turnT]; omega, fun t ht => ?_⟩
    obtain ⟨x, _, rfl⟩ := List.mem_map.1 ht
    exact (hp.short (okP_len hc.1)).rd x
  · exact ⟨by simp, by simp⟩
theorem FnExactTurnThreads : laws_FnExactTurnThreads.Pure := by
  intro l rw hl ht
  by_cases hr : (rw.length : Int) > 1048576
  · exact ⟨0, [], [], [], [], [], false, 0, 0, 0, 0, .inl hr⟩
  have hr2 : rw.length ≤ 1048576 := by omega
  obtain ⟨left, ⟨K0, e0⟩, hf⟩ := szProg_ev l hl ht
  rcases hf with hf | ⟨h1, h2⟩
  · exact ⟨K0, [], [], [], [], [], false, left, 0, 0, 0, .inr ⟨e0 K0 (Nat.le_refl _), .inl hf⟩⟩
  have hp := cvP_mid h1 h2
  have hw := turned_mid hp rw
  obtain ⟨K1, e1⟩ := toProg_ev l h1 h2
  obtain ⟨K2, e2⟩ := sThreadsM _ hp rw hr2
  obtain ⟨K3, e3⟩ := iThreadsM _ hp rw hr2
  obtain ⟨K4, e4⟩ := eqSelf _ hw
  obtain ⟨K5, e5⟩ := eqSelf _ hp
  obtain ⟨K6, e6⟩ := markProg_ev _ hp
  obtain ⟨K7, e7⟩ := markProg_ev _ hw
  obtain ⟨K8, e8⟩ := heldProg_ev _ hw
  have z1 := sizeP_mid hp
  have z2 := sizeP_mid hw
  obtain ⟨K9, e9⟩ := toIntS_ev rw hr2
  obtain ⟨L1, g1⟩ := eqIntS_ev rw hr2
  obtain ⟨L2, g2⟩ := markIntS_ev rw (1 + 3 * sizeP (cvP l)) hr2 (by omega) (by omega)
  exact ⟨K0 + K1 + K2 + K3 + K4 + K5 + K6 + K7 + K8 + K9 + L1 + L2, cvP l, (turned (cvP l) rw).1, markP (cvP l) 1, markP (turned (cvP l) rw).1 1, markI rw (1 + 3 * sizeP (cvP l)), (turned (cvP l) rw).2, left, 1 + 3 * sizeP (cvP l), 1 + 3 * sizeP (cvP l) + (rw.length : Int), 1 + 3 * sizeP (turned (cvP l) rw).1,
    .inr ⟨e0 _ (by omega), .inr ⟨e1 _ (by omega), e9 _ (by omega), e2 _ (by omega), e3 _ (by omega), e4 _ (by omega), e5 _ (by omega), g1 _ (by omega), e6 _ (by omega), g2 _ (by omega), by omega, e7 _ (by omega), by omega, e8 _ (by omega)⟩⟩⟩
end Go.Proofs.Ytefkbmhkhpekjaa.Pure

/- Threads turned, and turned back, are as they were (the law FnTurnThreads): for every code the law answers true. No condition. -/
import Derived.Test.YtefkbmhkhpekjaaJFnTurnThreadsx0
import Derived.Test.YtefkbmhkhpekjaaJFnTurnThreadsyTurnOk
namespace Go.Proofs.Ytefkbmhkhpekjaa.Pure
open Go.RowKit Go.Proofs.Ytefkbmhkhpekjaa.PB Go.Proofs.YtefkbmhkhpekjaaW.PrintWords Go.Proofs.YtefkbmhkhpekjaaW.PrintLast
set_option linter.unusedVariables false

theorem back_ev {row : List Int} {n : Nat} (h1 : 1 ≤ n) (h3 : n ≤ 3) (h : rowB row n = true) : Ev (fun k => laws_lpBack.f k row) (backR row) := by
  rcases row_cases h1 h3 h with ⟨_, rfl⟩ | ⟨_, rfl | rfl⟩ | ⟨_, rfl | rfl | rfl | rfl | rfl | rfl⟩ <;>
    exact Ev.mono (k := 20) (fun k => laws_lpBack.mono _ k) (by decide +kernel)
theorem drawThreads (l : List Int) (hw : ∀ x ∈ l, (Lit.int .u8 x).wf = true) : ∃ p row, Good p ∧ row.length ≤ 31 ∧ Ev (fun k => spec_DrawTurnThreads.f k l) (p, row) := by
  obtain ⟨b, hb, e⟩ := open_ev l hw
  obtain ⟨p, s, ep, s0, s1, hp⟩ := any_dr hb 0 (by omega) (by omega)
  obtain ⟨row, s', er, _, _, hr⟩ := row_dr hb s (p.length : Int) (by omega) (by omega) (by have := hp.1; omega) (by have := hp.2.1; omega)
  refine ⟨p, row, hp, hr, ?_⟩
  unfold spec_DrawTurnThreads.f
  simp only [e, Option.bind_some]
  exact ep.bind (er.bind Ev.const)
theorem FnTurnThreads : laws_FnTurnThreads.Pure := by
  intro l _ _ hw
  by_cases hl : (l.length : Int) > 1048576
  · exact ⟨0, [], [], [], [], false, 0, .inl hl⟩
  obtain ⟨p, row, hp, hr, K1, e1⟩ := drawThreads l hw
  have hs := hp.short
  obtain ⟨K2, e2⟩ := sTurn p hs hp.1 row (by omega)
  obtain ⟨K3, e3⟩ := iTurn p hs hp.1 row (by omega)
  by_cases h : okP p = true ∧ rowB row p.length = true
  · obtain ⟨f1, f2, f3, f4, f5, f6, f7⟩ := turn_facts p hs hp.1 hp.2.1 row h.2
    unfold turned at e2 e3
    rw [if_pos h] at e2 e3
    obtain ⟨K4, e4⟩ := lpSelf _ f2
    obtain ⟨K5, e5⟩ := back_ev hp.1 hp.2.1 h.2
    obtain ⟨K6, e6⟩ := iTurn _ f2 (by rw [f3]; exact hp.1) (backR row) (by omega)
    unfold turned at e6
    rw [f3, f1, if_pos ⟨h.1, f4⟩, f6] at e6
    obtain ⟨K7, e7⟩ := lpSelf p hs
    obtain ⟨K8, e8⟩ := progReads _ f2
    rw [f1, if_pos h.1, f7] at e8
    obtain ⟨K9, e9⟩ := progReads p hs
    rw [if_pos h.1] at e9
    exact ⟨K1 + K2 + K3 + K4 + K5 + K6 + K7 + K8 + K9, p, turnT p row, row, backR row, true, readsP p, .inr ⟨e1 _ (by omega), e2 _ (by omega), e3 _ (by omega), e4 _ (by omega), fun _ => ⟨e5 _ (by omega), e6 _ (by omega), e7 _ (by omega), e8 _ (by omega), e9 _ (by omega)⟩⟩⟩
  · unfold turned at e2 e3
    rw [if_neg h] at e2 e3
    obtain ⟨K4, e4⟩ := lpSelf [] ⟨by simp, by simp⟩
    exact ⟨K1 + K2 + K3 + K4, p, [], row, [], false, 0, .inr ⟨e1 _ (by omega), e2 _ (by omega), e3 _ (by omega), e4 _ (by omega), fun h => by cases h⟩⟩
end Go.Proofs.Ytefkbmhkhpekjaa.Pure

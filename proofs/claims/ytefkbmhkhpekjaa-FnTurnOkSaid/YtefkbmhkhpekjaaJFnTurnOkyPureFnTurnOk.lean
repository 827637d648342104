/- What is turned is a program (the law FnTurnOk): for every code the law answers true. No condition. -/
import Derived.Test.YtefkbmhkhpekjaaJFnTurnOkx0
import Derived.Test.YtefkbmhkhpekjaaJFnTurnOkyTurnOk
import Derived.Test.YtefkbmhkhpekjaaJFnTurnOkyPlacesOk
namespace Go.Proofs.Ytefkbmhkhpekjaa.Pure
open Go.RowKit Go.Proofs.Ytefkbmhkhpekjaa.PB Go.Proofs.YtefkbmhkhpekjaaW.PrintWords Go.Proofs.YtefkbmhkhpekjaaW.PrintLast
set_option linter.unusedVariables false

theorem drawThreads' (l : List Int) (hw : ∀ x ∈ l, (Lit.int .u8 x).wf = true) : ∃ p row, Good p ∧ row.length ≤ 31 ∧ Ev (fun k => spec_DrawTurnThreads.f k l) (p, row) := by
  obtain ⟨b, hb, e⟩ := open_ev l hw
  obtain ⟨p, s, ep, s0, s1, hp⟩ := any_dr hb 0 (by omega) (by omega)
  obtain ⟨row, s', er, _, _, hr⟩ := row_dr hb s (p.length : Int) (by omega) (by omega) (by have := hp.1; omega) (by have := hp.2.1; omega)
  refine ⟨p, row, hp, hr, ?_⟩
  unfold spec_DrawTurnThreads.f
  simp only [e, Option.bind_some]
  exact ep.bind (er.bind Ev.const)
theorem FnTurnOk : laws_FnTurnOk.Pure := by
  intro l _ _ hw
  by_cases hl : (l.length : Int) > 1048576
  · exact ⟨0, [], [], [], [], [], false, false, .inl hl⟩
  obtain ⟨p, row, hp, hr, K1, e1⟩ := drawThreads' l hw
  have hs := hp.short
  obtain ⟨K2, e2⟩ := iTurn p hs hp.1 row (by omega)
  obtain ⟨K3, e3⟩ := iPlaces p hs [2, 0, 1] (by decide)
  obtain ⟨K4, e4⟩ := sTurn p hs hp.1 row (by omega)
  have h201 : rowB [2, 0, 1] 3 = true := by decide
  have f5 : ∃ K5, ∀ k, K5 ≤ k → (turned p row).2 = true → impl_ProgOk.f k (turned p row).1 = some true := by
    by_cases h : okP p = true ∧ rowB row p.length = true
    · obtain ⟨f1, f2, _⟩ := turn_facts p hs hp.1 hp.2.1 row h.2
      obtain ⟨K, e⟩ := iProg _ f2
      refine ⟨K, fun k hk _ => ?_⟩
      unfold turned
      rw [if_pos h]
      rw [f1, h.1] at e
      exact e k hk
    · refine ⟨0, fun k _ hh => ?_⟩
      unfold turned at hh
      rw [if_neg h] at hh
      cases hh
  obtain ⟨K5, e5⟩ := f5
  have f6 : ∃ K6, ∀ k, K6 ≤ k → spec_ProgOk.f k p = some (placed p [2, 0, 1]).2 := by
    obtain ⟨K, e⟩ := sProg p hs
    refine ⟨K, fun k hk => (e k hk).trans ?_⟩
    unfold placed
    by_cases h : okP p = true
    · rw [if_pos ⟨h, h201⟩, h]
    · rw [if_neg (fun e => h e.1)]
      simpa using h
  obtain ⟨K6, e6⟩ := f6
  have f7 : ∃ K7, ∀ k, K7 ≤ k → (placed p [2, 0, 1]).2 = true → impl_ProgOk.f k (placed p [2, 0, 1]).1 = some true := by
    by_cases h : okP p = true
    · obtain ⟨K, e⟩ := iProg _ (mapP_short (g := placesG [2, 0, 1]) hs)
      refine ⟨K, fun k hk _ => ?_⟩
      unfold placed
      rw [if_pos ⟨h, h201⟩]
      rw [map_ok (places_kind _) (places_do h201) h] at e
      exact e k hk
    · refine ⟨0, fun k _ hh => ?_⟩
      unfold placed at hh
      rw [if_neg (fun e => h e.1)] at hh
      cases hh
  obtain ⟨K7, e7⟩ := f7
  exact ⟨K1 + K2 + K3 + K4 + K5 + K6 + K7, p, (turned p row).1, (placed p [2, 0, 1]).1, (turned p row).1, row, (turned p row).2, (placed p [2, 0, 1]).2, .inr ⟨e1 _ (by omega), e2 _ (by omega), e3 _ (by omega), e4 _ (by omega), e5 _ (by omega), e6 _ (by omega), e7 _ (by omega)⟩⟩
end Go.Proofs.Ytefkbmhkhpekjaa.Pure

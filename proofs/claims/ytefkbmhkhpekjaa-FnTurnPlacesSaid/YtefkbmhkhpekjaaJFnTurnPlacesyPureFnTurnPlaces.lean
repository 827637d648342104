/- Places turned, and turned back, are as they were (the law FnTurnPlaces): for every code the law answers true. No condition. -/
import Derived.Test.YtefkbmhkhpekjaaJFnTurnPlacesx0
import Derived.Test.YtefkbmhkhpekjaaJFnTurnPlacesyPlacesOk
namespace Go.Proofs.Ytefkbmhkhpekjaa.Pure
open Go.RowKit Go.Proofs.Ytefkbmhkhpekjaa.PB Go.Proofs.YtefkbmhkhpekjaaW.PrintWords Go.Proofs.YtefkbmhkhpekjaaW.PrintLast
set_option linter.unusedVariables false

theorem back3_ev {row : List Int} (h : rowB row 3 = true) : Ev (fun k => laws_lpBack.f k row) (backR row) := by
  rcases row_cases (n := 3) (by omega) (by omega) h with ⟨hn, _⟩ | ⟨hn, _⟩ | ⟨_, h⟩
  · cases hn
  · cases hn
  · rcases h with rfl | rfl | rfl | rfl | rfl | rfl <;>
      exact Ev.mono (k := 20) (fun k => laws_lpBack.mono _ k) (by decide +kernel)
theorem drawPlaces (l : List Int) (hw : ∀ x ∈ l, (Lit.int .u8 x).wf = true) : ∃ p row, Good p ∧ row.length ≤ 31 ∧ Ev (fun k => spec_DrawTurnPlaces.f k l) (p, row) := by
  obtain ⟨b, hb, e⟩ := open_ev l hw
  obtain ⟨p, s, ep, s0, s1, hp⟩ := any_dr hb 0 (by omega) (by omega)
  obtain ⟨row, s', er, _, _, hr⟩ := row_dr hb s 3 (by omega) (by omega) (by omega) (by omega)
  refine ⟨p, row, hp, hr, ?_⟩
  unfold spec_DrawTurnPlaces.f
  simp only [e, Option.bind_some]
  exact ep.bind (er.bind Ev.const)
theorem FnTurnPlaces : laws_FnTurnPlaces.Pure := by
  intro l _ _ hw
  by_cases hl : (l.length : Int) > 1048576
  · exact ⟨0, [], [], [], [], false, 0, .inl hl⟩
  obtain ⟨p, row, hp, hr, K1, e1⟩ := drawPlaces l hw
  have hs := hp.short
  obtain ⟨K2, e2⟩ := sPlaces p hs row (by omega)
  obtain ⟨K3, e3⟩ := iPlaces p hs row (by omega)
  by_cases h : okP p = true ∧ rowB row 3 = true
  · have hb := back_row h.2
    have f2 : Short (mapP (placesG row) p) := mapP_short hs
    have f1 : okP (mapP (placesG row) p) = true := map_ok (places_kind row) (places_do h.2) h.1
    have f3 : mapP (placesG (backR row)) (mapP (placesG row) p) = p := by
      rw [mapP_mapP]
      exact mapP_id (fun t ht d hd => places_back h.2 d (okP_do h.1 t ht d hd))
    unfold placed at e2 e3
    rw [if_pos h] at e2 e3
    obtain ⟨K4, e4⟩ := lpSelf _ f2
    obtain ⟨K5, e5⟩ := back3_ev h.2
    obtain ⟨K6, e6⟩ := iPlaces _ f2 (backR row) (by omega)
    unfold placed at e6
    rw [if_pos ⟨f1, hb.1⟩, f3] at e6
    obtain ⟨K7, e7⟩ := lpSelf p hs
    exact ⟨K1 + K2 + K3 + K4 + K5 + K6 + K7, p, mapP (placesG row) p, row, backR row, true, 0, .inr ⟨e1 _ (by omega), e2 _ (by omega), e3 _ (by omega), e4 _ (by omega), fun _ => ⟨e5 _ (by omega), e6 _ (by omega), e7 _ (by omega)⟩⟩⟩
  · unfold placed at e2 e3
    rw [if_neg h] at e2 e3
    obtain ⟨K4, e4⟩ := lpSelf [] ⟨by simp, by simp⟩
    exact ⟨K1 + K2 + K3 + K4, p, [], row, [], false, 0, .inr ⟨e1 _ (by omega), e2 _ (by omega), e3 _ (by omega), e4 _ (by omega), fun h => by cases h⟩⟩
end Go.Proofs.Ytefkbmhkhpekjaa.Pure

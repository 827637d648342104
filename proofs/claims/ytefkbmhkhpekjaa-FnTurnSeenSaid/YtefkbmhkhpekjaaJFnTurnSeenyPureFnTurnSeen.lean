/- What was seen, turned, and turned back, is as it was (the law FnTurnSeen): for every code the law answers true. No condition. -/
import Derived.Test.YtefkbmhkhpekjaaJFnTurnSeenx0
namespace Go.Proofs.Ytefkbmhkhpekjaa.Pure
open Go.RowKit Go.Proofs.Ytefkbmhkhpekjaa.PB Go.Proofs.YtefkbmhkhpekjaaW.PrintWords Go.Proofs.YtefkbmhkhpekjaaW.PrintLast
set_option linter.unusedVariables false

theorem back_ev {row : List Int} {n : Nat} (h1 : 1 ≤ n) (h3 : n ≤ 3) (h : rowB row n = true) : Ev (fun k => laws_lpBack.f k row) (backR row) := by
  rcases row_cases h1 h3 h with ⟨_, rfl⟩ | ⟨_, rfl | rfl⟩ | ⟨_, rfl | rfl | rfl | rfl | rfl | rfl⟩ <;>
    exact Ev.mono (k := 20) (fun k => laws_lpBack.mono _ k) (by decide +kernel)
theorem FnTurnSeen : laws_FnTurnSeen.Pure := by
  rintro p sr sl row ⟨hp, hsr, hsl, hr⟩
  have hs := hp.short
  have hm : Mid p := ⟨by have := hs.1; omega, hs.2⟩
  obtain ⟨K2, e2⟩ := sSeenTurn p hm sr sl row (by omega) (by omega) (by omega)
  obtain ⟨K3, e3⟩ := iSeenTurn p hm sr sl row (by omega) (by omega) (by omega)
  by_cases h : okS p sr sl = true ∧ rowB row p.length = true
  · obtain ⟨f1, f2, f3, f4, f5, f6, f7⟩ := turn_facts p hs hp.1 hp.2.1 row h.2
    obtain ⟨g1, g2, g3⟩ := seen_back p hs hp.1 hp.2.1 sr sl row h.1 h.2
    unfold seenT at e2 e3
    rw [if_pos h] at e2 e3
    have hm2 : Mid (turnT p row) := ⟨by have := f2.1; omega, f2.2⟩
    obtain ⟨K4, e4⟩ := lpSame (turnR p sr row) sl (by omega) (by omega)
    obtain ⟨K5, e5⟩ := iTurn0 p hs row (by omega)
    unfold turned at e5
    rw [if_pos ⟨(okS_parts h.1).1, h.2⟩] at e5
    obtain ⟨K6, e6⟩ := back_ev hp.1 hp.2.1 h.2
    obtain ⟨K7, e7⟩ := iSeenTurn (turnT p row) hm2 (turnR p sr row) sl (backR row) (by omega) (by omega) (by omega)
    unfold seenT at e7
    rw [if_pos ⟨g1, by rw [f3]; exact f4⟩, g2] at e7
    obtain ⟨K8, e8⟩ := iSeenOk (turnT p row) hm2 (turnR p sr row) sl
    rw [g1] at e8
    obtain ⟨K9, e9⟩ := lpSame sr sl (by omega) (by omega)
    exact ⟨K2 + K3 + K4 + K5 + K6 + K7 + K8 + K9, turnT p row, turnR p sr row, sl, backR row, true, true, e2 _ (by omega), e3 _ (by omega), e4 _ (by omega), fun _ => ⟨e5 _ (by omega), e6 _ (by omega), e7 _ (by omega), e8 _ (by omega), e9 _ (by omega)⟩⟩
  · unfold seenT at e2 e3
    rw [if_neg h] at e2 e3
    obtain ⟨K4, e4⟩ := lpSame [] [] (by simp) (by simp)
    exact ⟨K2 + K3 + K4, [], [], [], [], false, false, e2 _ (by omega), e3 _ (by omega), e4 _ (by omega), fun h => by cases h⟩
end Go.Proofs.Ytefkbmhkhpekjaa.Pure

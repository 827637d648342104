/- What TurnBeside answers is what the reference says (the law FnExactTurnBeside), for all arguments: the facts along the law's one way. No condition. -/
import Derived.Test.YtefkbmhkhpekjaaJFnExactTurnBesidex0
import Derived.Test.YtefkbmhkhpekjaaJFnExactTurnBesideyExactProg
import Derived.Test.YtefkbmhkhpekjaaJFnExactTurnBesideyBesideOk
namespace Go.Proofs.Ytefkbmhkhpekjaa.Pure
open Go.RowKit Go.Proofs.Ytefkbmhkhpekjaa.PB Go.Proofs.YtefkbmhkhpekjaaW.PrintWords Go.Proofs.YtefkbmhkhpekjaaW.PrintLast
set_option linter.unusedVariables false

theorem beside_mid {p q : List (List S85)} (hp : Mid p) (hq : Mid q) : Mid (beside p q).1 := by
  unfold beside
  split
  · rename_i h
    have h1 := okP_le3 h.2.2
    exact ⟨by show (p ++ q).length ≤ 1048576; omega, mem_both hp.2 hq.2⟩
  · exact ⟨by simp, by simp⟩
theorem FnExactTurnBeside : laws_FnExactTurnBeside.Pure := by
  intro l l2 hl ht hl2 ht2
  obtain ⟨left, ⟨K0, e0⟩, hle, hf⟩ := szProg_at 1048576 (by omega) (by omega) l hl ht
  by_cases hn : left < 0
  · exact ⟨K0, [], [], [], [], [], [], false, left, 0, 0, 0, 0, e0 K0 (Nat.le_refl _), .inl hn⟩
  obtain ⟨left2, ⟨L0, g0⟩, _, hf2⟩ := szProg_at left (by omega) hle l2 hl2 ht2
  obtain ⟨h1, h2⟩ := hf.resolve_left hn
  rcases hf2 with hf2 | ⟨h3, h4⟩
  · exact ⟨K0 + L0, [], [], [], [], [], [], false, left, left2, 0, 0, 0, e0 _ (by omega), .inr ⟨g0 _ (by omega), .inl hf2⟩⟩
  have hp := cvP_mid h1 h2
  have hq := cvP_mid h3 h4
  have hw := beside_mid hp hq
  obtain ⟨K1, e1⟩ := toProg_ev l h1 h2
  obtain ⟨L1, g1⟩ := toProg_ev l2 h3 h4
  obtain ⟨K2, e2⟩ := sBeside _ _ hp.1 hp.2 hq.1 hq.2
  obtain ⟨K3, e3⟩ := iBeside _ _ hp.1 hp.2 hq.1 hq.2
  obtain ⟨K4, e4⟩ := eqSelf _ hw
  obtain ⟨K5, e5⟩ := eqSelf _ hp
  obtain ⟨L5, g5⟩ := eqSelf _ hq
  have z1 := sizeP_mid hp
  have z2 := sizeP_mid hw
  have z3 := sizeP_mid hq
  obtain ⟨K6, e6⟩ := markProg_ev _ hp
  obtain ⟨L6, g6⟩ := markProg_at _ hq (1 + 3 * sizeP (cvP l)) (by omega) (by omega)
  obtain ⟨K7, e7⟩ := markProg_ev _ hw
  obtain ⟨K8, e8⟩ := heldProg_ev _ hw
  exact ⟨K0 + L0 + K1 + L1 + K2 + K3 + K4 + K5 + L5 + K6 + L6 + K7 + K8, cvP l, cvP l2, (beside (cvP l) (cvP l2)).1, markP (cvP l) 1, markP (cvP l2) (1 + 3 * sizeP (cvP l)), markP (beside (cvP l) (cvP l2)).1 1, (beside (cvP l) (cvP l2)).2, left, left2, 1 + 3 * sizeP (cvP l), 1 + 3 * sizeP (cvP l) + 3 * sizeP (cvP l2), 1 + 3 * sizeP (beside (cvP l) (cvP l2)).1, e0 _ (by omega),
    .inr ⟨g0 _ (by omega), .inr ⟨e1 _ (by omega), g1 _ (by omega), e2 _ (by omega), e3 _ (by omega), e4 _ (by omega), e5 _ (by omega), g5 _ (by omega), e6 _ (by omega), g6 _ (by omega), by omega, e7 _ (by omega), by omega, e8 _ (by omega)⟩⟩⟩
end Go.Proofs.Ytefkbmhkhpekjaa.Pure

/- What TurnPlain answers is what the reference says (the law FnExactTurnPlain), for every program: the facts along the law's one way. No condition. -/
import Derived.Test.YtefkbmhkhpekjaaJFnExactTurnPlainx0
import Derived.Test.YtefkbmhkhpekjaaJFnExactTurnPlainyExactProg
import Derived.Test.YtefkbmhkhpekjaaJFnExactTurnPlainyPlainOk
namespace Go.Proofs.Ytefkbmhkhpekjaa.Pure
open Go.RowKit Go.Proofs.Ytefkbmhkhpekjaa.PB Go.Proofs.YtefkbmhkhpekjaaW.PrintWords Go.Proofs.YtefkbmhkhpekjaaW.PrintLast
set_option linter.unusedVariables false

def plained (p : List (List S85)) : List (List S85) := if okP p = true then plainP p else []
theorem iPlainM (p : List (List S85)) (hp : Mid p) : Ev (fun k => impl_TurnPlain.f k p) (plained p) := by
  by_cases h : p.length ≤ 3
  · exact implPlain p (hp.short h)
  · unfold impl_TurnPlain.f plained
    have ho := okP_more h
    refine Ev.bind (iProgM p hp) ?_
    simp only [ho, Bool.false_eq_true, if_false]
    exact Ev.const
theorem sPlainM (p : List (List S85)) (hp : Mid p) : Ev (fun k => spec_TurnPlain.f k p) (plained p) := by
  by_cases h0 : p = []
  · subst h0
    unfold spec_TurnPlain.f
    refine Ev.succ ?_
    simp only [spec_TurnPlain.l0, List.length_nil, Int.natCast_zero, Int.lt_irrefl, if_false]
    refine Ev.succ ?_
    simp only [spec_TurnPlain.j1, Bool.false_eq_true, if_false]
    exact Ev.const.of (by decide)
  by_cases h : p.length ≤ 3
  · exact specPlain p (hp.short h) h0
  · unfold spec_TurnPlain.f plained
    have ho := okP_more h
    refine Ev.succ ?_
    simp only [spec_TurnPlain.l0, if_pos (show (0 : Int) < (p.length : Int) by omega), ho, Bool.false_eq_true, if_false]
    refine Ev.bind (sProgM p hp) (Ev.succ (Ev.now fun k => ?_))
    simp only [spec_TurnPlain.j1, ho, Bool.false_eq_true, if_false]
theorem plained_mid {p : List (List S85)} (hp : Mid p) : Mid (plained p) := by
  unfold plained
  split
  · refine ⟨by simpa [plainP] using hp.1, fun t ht => ?_⟩
    obtain ⟨u, hu, rfl⟩ := List.mem_map.1 ht
    simpa using hp.2 u hu
  · exact ⟨by simp, by simp⟩
theorem FnExactTurnPlain : laws_FnExactTurnPlain.Pure := by
  intro l hl ht
  obtain ⟨left, ⟨K0, e0⟩, hr⟩ := szProg_ev l hl ht
  rcases hr with hr | ⟨h1, h2⟩
  · exact ⟨K0, [], [], [], [], left, 0, 0, e0 K0 (Nat.le_refl _), .inl hr⟩
  have hp := cvP_mid h1 h2
  have hw := plained_mid hp
  obtain ⟨K1, e1⟩ := toProg_ev l h1 h2
  obtain ⟨K2, e2⟩ := sPlainM _ hp
  obtain ⟨K3, e3⟩ := iPlainM _ hp
  obtain ⟨K4, e4⟩ := eqSelf _ hw
  obtain ⟨K5, e5⟩ := eqSelf _ hp
  obtain ⟨K6, e6⟩ := markProg_ev _ hp
  obtain ⟨K7, e7⟩ := markProg_ev _ hw
  obtain ⟨K8, e8⟩ := heldProg_ev _ hw
  have z1 := sizeP_mid hp
  have z2 := sizeP_mid hw
  exact ⟨K0 + K1 + K2 + K3 + K4 + K5 + K6 + K7 + K8, cvP l, plained (cvP l), markP (cvP l) 1, markP (plained (cvP l)) 1, left, 1 + 3 * sizeP (cvP l), 1 + 3 * sizeP (plained (cvP l)), e0 _ (by omega),
    .inr ⟨e1 _ (by omega), e2 _ (by omega), e3 _ (by omega), e4 _ (by omega), e5 _ (by omega), e6 _ (by omega), by omega, e7 _ (by omega), by omega, e8 _ (by omega)⟩⟩
end Go.Proofs.Ytefkbmhkhpekjaa.Pure

/- Places turned: the two functions answer the same; the turned program is ok; turned back it is as it was. Plain Lean over the printed functions. No condition but that the program is short. -/
import Derived.Test.YtefkbmhkhpekjaaJFnExactTurnPlacesyPlacesOk
import Derived.Test.YtefkbmhkhpekjaaJFnExactTurnPlacesx0
namespace Go.Proofs.Ytefkbmhkhpekjaa.Pure
open Go.RowKit Go.Proofs.Ytefkbmhkhpekjaa.PB Go.Proofs.YtefkbmhkhpekjaaW.PrintWords Go.Proofs.YtefkbmhkhpekjaaW.PrintLast
set_option linter.unusedVariables false

theorem sPlacesInner (row : List Int) (hr : rowB row 3 = true) (p out : List (List S85)) (x : Int) (R : List (List S85) × Bool) : ∀ (b a : List S85), (∀ d ∈ b, doB d.f0 d.f1 d.f2 = true) → a.length + b.length ≤ 1048576 → out.length ≤ 1000 →
    Ev (fun k => spec_TurnPlaces.l0 k row (wrap64 (x + 1)) p (out ++ [a ++ b.map (placesG row)])) R → Ev (fun k => spec_TurnPlaces.l1 k row x (a ++ b) (a.length : Int) p out) R
  | [], a, _, _, ho, h => by
    refine Ev.succ ?_
    simp only [spec_TurnPlaces.l1, List.append_nil, Int.lt_irrefl, if_false, if_pos (show out.length < 5864062014805 by omega)]
    simpa using h
  | d :: b, a, hb, hl, ho, h => by
    simp only [List.length_cons] at hl
    have hd := hb d List.mem_cons_self
    have hpt := (do_parts hd).1
    have hrl := (places_rd hr).1
    refine Ev.succ ?_
    have hg : rd_T85 (a ++ d :: b) (a.length : Int) = d := by
      rw [rd_T85_get (by simp)]
      simp
    simp only [spec_TurnPlaces.l1, hg, sReads, sWrites, Option.bind_some, if_pos (show (a.length : Int) < ((a ++ d :: b).length : Int) by simp; omega), if_pos (show (0 : Int) ≤ (a.length : Int) by omega), Int.toNat_natCast, set_at]
    rw [w64' (by omega) (by omega)]
    have ih := sPlacesInner row hr p out x R b (a ++ [placesG row d]) (fun y hy => hb y (List.mem_cons_of_mem _ hy)) (by simp; omega) ho (by simpa using h)
    simp only [List.append_assoc, List.singleton_append, List.length_append, List.length_singleton, Int.natCast_add, Int.cast_ofNat_Int] at ih
    by_cases hu : usB d.f0 = true
    · rw [if_pos hu] at hpt
      have e : placesG row d = ⟨d.f0, rd row d.f1, d.f2⟩ := by unfold placesG; rw [if_pos hu]
      rw [e] at ih
      simp only [if_pos hpt.1, if_pos (show d.f1 < (row.length : Int) by omega)]
      unfold usB at hu
      cases hc : rdB d.f0
      · rw [hc, Bool.false_or] at hu
        simp only [Bool.false_eq_true, if_false, hu, if_true]
        exact ih
      · simp only [if_true]
        exact ih
    · have e : placesG row d = d := by unfold placesG; rw [if_neg hu]
      rw [e] at ih
      unfold usB at hu
      cases hc : rdB d.f0
      · rw [hc, Bool.false_or] at hu
        simp only [Bool.false_eq_true, if_false, hu]
        exact ih
      · rw [hc] at hu; simp at hu
theorem sPlacesOuter (row : List Int) (hr : rowB row 3 = true) (p : List (List S85)) (hp : Short p) (hk : okP p = true) : ∀ (m : Nat) (out : List (List S85)), m ≤ p.length → out.length + m ≤ 1000 →
    Ev (fun k => spec_TurnPlaces.l0 k row ((p.length - m : Nat) : Int) p out) (out ++ mapP (placesG row) (p.drop (p.length - m)), true)
  | 0, out, _, _ => by
    refine Ev.succ (Ev.now fun k => ?_)
    simp [spec_TurnPlaces.l0, mapP]
  | m + 1, out, hm, ho => by
    have hlt : p.length - (m + 1) < p.length := by omega
    have hd : p.drop (p.length - (m + 1)) = p[p.length - (m + 1)] :: p.drop (p.length - m) := by
      rw [List.drop_eq_getElem_cons hlt, show p.length - (m + 1) + 1 = p.length - m by omega]
    have hl := hp.at hlt
    have hp1 := hp.1
    rw [hd]
    refine Ev.succ ?_
    simp only [spec_TurnPlaces.l0, Option.bind_some, rd_L7_get hlt, List.length_nil, Nat.zero_add, List.nil_append, if_pos (show ((p.length - (m + 1) : Nat) : Int) < (p.length : Int) by omega), if_pos (show (0 : Int) ≤ ((p.length - (m + 1) : Nat) : Int) by omega), if_pos (show p[p.length - (m + 1)].length < 5864062014805 by omega)]
    have ih := sPlacesOuter row hr p hp hk m (out ++ [p[p.length - (m + 1)].map (placesG row)]) (by omega) (by simp; omega)
    have := sPlacesInner row hr p out ((p.length - (m + 1) : Nat) : Int) (out ++ [p[p.length - (m + 1)].map (placesG row)] ++ mapP (placesG row) (p.drop (p.length - m)), true) p[p.length - (m + 1)] [] (okP_do hk _ (List.getElem_mem hlt)) (by simpa using hl) (by omega) (by
      rw [w64' (by omega) (by omega), show ((p.length - (m + 1) : Nat) : Int) + 1 = ((p.length - m : Nat) : Int) by omega]
      simpa using ih)
    exact Ev.of (by simpa using this) (by simp [mapP])
theorem sPlaces (p : List (List S85)) (hp : Short p) (row : List Int) (hr : row.length ≤ 1048576) : Ev (fun k => spec_TurnPlaces.f k p row) (placed p row) := by
  unfold spec_TurnPlaces.f placed
  refine Ev.bind (sProg p hp) ?_
  by_cases h : okP p = true
  · simp only [if_pos h]
    refine Ev.bind (sRow row hr 3 (by omega)) (Ev.succ ?_)
    by_cases hb : rowB row 3 = true
    · rw [hb, if_pos ⟨h, rfl⟩]
      simp only [spec_TurnPlaces.j0, Bool.not_true, Bool.false_eq_true, if_false]
      have := sPlacesOuter row hb p hp h p.length [] (Nat.le_refl _) (by have := hp.1; simp; omega)
      rw [Nat.sub_self] at this
      exact this
    · rw [show rowB row 3 = false by simpa using hb, if_neg (by simp)]
      simp only [spec_TurnPlaces.j0, Bool.not_false, if_true]
      exact Ev.const
  · simp only [if_neg h]
    rw [if_neg (fun e => h e.1)]
    refine Ev.succ ?_
    simp only [spec_TurnPlaces.j0, if_true]
    exact Ev.const
end Go.Proofs.Ytefkbmhkhpekjaa.Pure

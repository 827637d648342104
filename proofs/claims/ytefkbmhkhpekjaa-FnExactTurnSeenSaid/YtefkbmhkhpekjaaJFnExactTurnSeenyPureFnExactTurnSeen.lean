/- What TurnSeen answers is what the reference says (the law FnExactTurnSeen), for all arguments: the facts along the law's one way. No condition. -/
import Derived.Test.YtefkbmhkhpekjaaJFnExactTurnSeenx1
import Derived.Test.YtefkbmhkhpekjaaJFnExactTurnSeenySeenTurn
namespace Go.Proofs.Ytefkbmhkhpekjaa.Pure
open Go.RowKit Go.Proofs.Ytefkbmhkhpekjaa.PB Go.Proofs.YtefkbmhkhpekjaaW.PrintWords Go.Proofs.YtefkbmhkhpekjaaW.PrintLast
set_option linter.unusedVariables false

theorem szSeen_at (a : Int) (a0 : 0 ≤ a) (a1 : a ≤ 1048576) (sr sl : List Int) (h1 : sr.length ≤ 9223372036854775807) (h2 : sl.length ≤ 9223372036854775807) :
    ∃ left, laws_szSeen.f sr sl a = some left ∧ (left < 0 ∨ sr.length ≤ 1048576 ∧ sl.length ≤ 1048576) := by
  unfold laws_szSeen.f laws_szIntS.f
  rw [w64' (by omega) (by omega)]
  by_cases h : a - (sr.length : Int) < 0
  · rw [if_pos h]
    exact ⟨-1, rfl, .inl (by omega)⟩
  · rw [if_neg h, Option.bind_some, if_neg h, w64' (by omega) (by omega)]
    by_cases g : a - (sr.length : Int) - (sl.length : Int) < 0
    · rw [if_pos g]
      exact ⟨-1, rfl, .inl (by omega)⟩
    · rw [if_neg g, Option.bind_some, if_neg g]
      exact ⟨_, rfl, .inr ⟨by omega, by omega⟩⟩
theorem toSeen_ev (sr sl : List Int) (h1 : sr.length ≤ 1048576) (h2 : sl.length ≤ 1048576) : Ev (fun k => laws_toSeen.f k sr sl) (sr, sl) :=
  Ev.bind (toIntS_ev sr h1) (Ev.bind (toIntS_ev sl h2) Ev.const)
theorem eqSeen_ev (sr sl : List Int) (h1 : sr.length ≤ 8000000) (h2 : sl.length ≤ 8000000) : Ev (fun k => laws_eqSeen.f k sr sl sr sl) true := by
  unfold laws_eqSeen.f
  refine Ev.bind (eqIntS_big sr h1) ?_
  simp only [if_true]
  refine Ev.bind (eqIntS_big sl h2) ?_
  simp only [if_true]
  exact Ev.const
theorem markSeen_ev (sr sl : List Int) (n : Int) (h1 : sr.length ≤ 8000000) (h2 : sl.length ≤ 8000000) (n0 : 0 ≤ n) (n1 : n ≤ 40000000000000) : Ev (fun k => laws_markSeen.f k sr sl n) (n + (sr.length : Int) + (sl.length : Int), markI sr n, markI sl (n + (sr.length : Int))) := by
  unfold laws_markSeen.f
  refine Ev.bind (markIntS_big sr n h1 n0 (by omega)) ?_
  exact Ev.bind (markIntS_big sl (n + (sr.length : Int)) h2 (by omega) (by omega)) Ev.const
theorem heldIntSL : ∀ (b a : List Int) (n : Int), a.length + b.length ≤ 20000000 → 0 ≤ n → n + (b.length : Int) ≤ 100000000000000 →
    Ev (fun k => laws_heldIntS.l0 k (a ++ markI b n) n (a.length : Int)) (n + (b.length : Int))
  | [], a, n, h, h0, h1 => by
    refine Ev.succ (Ev.now fun k => ?_)
    simp [laws_heldIntS.l0, markI]
  | d :: b, a, n, h, h0, h1 => by
    rw [List.length_cons] at h h1
    refine Ev.succ (Ev.congr ((heldIntSL b (a ++ [n]) (n + 1) (by simp; omega) (by omega) (by omega)).of (by simp; omega)) fun k => ?_)
    have hr : rd (a ++ n :: markI b (n + 1)) (a.length : Int) = n := rd_mid a _ n
    simp only [laws_heldIntS.l0, markI, hr]
    rw [if_pos (by simp; omega), if_pos (by omega), w64' (x := n + 1) (by omega) (by omega), w64' (x := (a.length : Int) + 1) (by omega) (by omega)]
    simp
theorem heldIntS_ev (t : List Int) (n : Int) (ht : t.length ≤ 8000000) (h0 : 0 ≤ n) (h1 : n ≤ 50000000000000) : Ev (fun k => laws_heldIntS.f k (markI t n) n) (n + (t.length : Int)) :=
  heldIntSL t [] n (by simp; omega) h0 (by omega)
theorem heldSeen_ev (sr sl : List Int) (h1 : sr.length ≤ 8000000) (h2 : sl.length ≤ 8000000) : Ev (fun k => laws_heldSeen.f k (markI sr 1) (markI sl (1 + (sr.length : Int))) 1) (1 + (sr.length : Int) + (sl.length : Int)) := by
  unfold laws_heldSeen.f
  refine Ev.bind (heldIntS_ev sr 1 h1 (by omega) (by omega)) ?_
  simp only [if_neg (show ¬ 1 + (sr.length : Int) < 0 by omega)]
  refine Ev.bind (heldIntS_ev sl (1 + (sr.length : Int)) h2 (by omega) (by omega)) ?_
  simp only [if_neg (show ¬ 1 + (sr.length : Int) + (sl.length : Int) < 0 by omega)]
  exact Ev.const
theorem seenT_le (p : List (List S85)) (sr sl row : List Int) (h4 : sr.length ≤ 1048576) (h5 : sl.length ≤ 1048576) : (seenT p sr sl row).1.length ≤ 1048576 * 4 ∧ (seenT p sr sl row).2.1.length ≤ 1048576 := by
  unfold seenT
  split
  · rename_i h
    have hr := row_len h.2
    have h3 := okP_len (okS_parts h.1).1
    refine ⟨?_, h5⟩
    have key : ∀ l : List Int, ((l.map (rd_L4 (partsR p sr 0))).flatten).length ≤ 1048576 * l.length := by
      intro l
      induction l with
      | nil => simp
      | cons x l ih =>
        have := part_le p sr h4 x
        simp only [List.map_cons, List.flatten_cons, List.length_append, List.length_cons]
        omega
    have := key row
    show (turnR p sr row).length ≤ _
    unfold turnR
    omega
  · exact ⟨by simp, by simp⟩
theorem FnExactTurnSeen : laws_FnExactTurnSeen.Pure := by
  intro l sr sl rw hl ht g1 g2
  by_cases hr : (rw.length : Int) > 1048576
  · exact ⟨0, [], [], [], [], [], [], [], [], [], false, 0, 0, 0, 0, 0, 0, .inl hr⟩
  have hr2 : rw.length ≤ 1048576 := by omega
  obtain ⟨left, ⟨K0, e0⟩, hle, hf⟩ := szProg_at 1048576 (by omega) (by omega) l hl ht
  by_cases hn : left < 0
  · exact ⟨K0, [], [], [], [], [], [], [], [], [], false, left, 0, 0, 0, 0, 0, .inr ⟨e0 K0 (Nat.le_refl _), .inl hn⟩⟩
  obtain ⟨left2, z0, hf2⟩ := szSeen_at left (by omega) hle sr sl g1 g2
  obtain ⟨h1, h2⟩ := hf.resolve_left hn
  rcases hf2 with hf2 | ⟨h3, h4⟩
  · exact ⟨K0, [], [], [], [], [], [], [], [], [], false, left, left2, 0, 0, 0, 0, .inr ⟨e0 _ (Nat.le_refl _), .inr ⟨z0, .inl hf2⟩⟩⟩
  have hp := cvP_mid h1 h2
  have hw := seenT_le (cvP l) sr sl rw h3 h4
  obtain ⟨K1, e1⟩ := toProg_ev l h1 h2
  obtain ⟨K2, e2⟩ := toSeen_ev sr sl h3 h4
  obtain ⟨K3, e3⟩ := toIntS_ev rw hr2
  obtain ⟨K4, e4⟩ := sSeenTurn _ hp sr sl rw h3 h4 hr2
  obtain ⟨K5, e5⟩ := iSeenTurn _ hp sr sl rw h3 h4 hr2
  generalize seenT (cvP l) sr sl rw = W at *
  obtain ⟨wr, wl, told⟩ := W
  simp only at hw
  obtain ⟨K6, e6⟩ := eqSeen_ev wr wl (by omega) (by omega)
  obtain ⟨K7, e7⟩ := eqSelf _ hp
  obtain ⟨K8, e8⟩ := eqSeen_ev sr sl (by omega) (by omega)
  obtain ⟨K9, e9⟩ := eqIntS_ev rw hr2
  have z1 := sizeP_mid hp
  obtain ⟨L1, f1⟩ := markProg_ev _ hp
  obtain ⟨L2, f2⟩ := markSeen_ev sr sl (1 + 3 * sizeP (cvP l)) (by omega) (by omega) (by omega) (by omega)
  obtain ⟨L3, f3⟩ := markIntS_ev rw (1 + 3 * sizeP (cvP l) + (sr.length : Int) + (sl.length : Int)) hr2 (by omega) (by omega)
  obtain ⟨L4, f4⟩ := markSeen_ev wr wl 1 (by omega) (by omega) (by omega) (by omega)
  obtain ⟨L5, f5⟩ := heldSeen_ev wr wl (by omega) (by omega)
  exact ⟨K0 + K1 + K2 + K3 + K4 + K5 + K6 + K7 + K8 + K9 + L1 + L2 + L3 + L4 + L5, cvP l, markP (cvP l) 1, wr, wl, markI sr (1 + 3 * sizeP (cvP l)), markI sl (1 + 3 * sizeP (cvP l) + (sr.length : Int)), markI rw (1 + 3 * sizeP (cvP l) + (sr.length : Int) + (sl.length : Int)), markI wr 1, markI wl (1 + (wr.length : Int)), told, left, left2,
    1 + 3 * sizeP (cvP l), 1 + 3 * sizeP (cvP l) + (sr.length : Int) + (sl.length : Int), 1 + 3 * sizeP (cvP l) + (sr.length : Int) + (sl.length : Int) + (rw.length : Int), 1 + (wr.length : Int) + (wl.length : Int),
    .inr ⟨e0 _ (by omega), .inr ⟨z0, .inr ⟨e1 _ (by omega), e2 _ (by omega), e3 _ (by omega), e4 _ (by omega), e5 _ (by omega), e6 _ (by omega), e7 _ (by omega), e8 _ (by omega), e9 _ (by omega), f1 _ (by omega), f2 _ (by omega), f3 _ (by omega), by omega, f4 _ (by omega), by omega, f5 _ (by omega)⟩⟩⟩⟩
end Go.Proofs.Ytefkbmhkhpekjaa.Pure

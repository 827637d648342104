/- Values turned: the two functions answer the same; the turned program is ok; turned back it is as it was; what is drawn ends. Plain Lean over the printed functions. No condition but that the program is short. -/
import Derived.Test.YtefkbmhkhpekjaaJFnExactTurnValsyRowOk
import Derived.Test.YtefkbmhkhpekjaaJFnExactTurnValsyMapOk
import Derived.Test.YtefkbmhkhpekjaaJFnExactTurnValsx1
import Derived.Test.YtefkbmhkhpekjaaJFnExactTurnValsx0
namespace Go.Proofs.Ytefkbmhkhpekjaa.Pure
open Go.RowKit Go.Proofs.Ytefkbmhkhpekjaa.PB Go.Proofs.YtefkbmhkhpekjaaW.PrintWords Go.Proofs.YtefkbmhkhpekjaaW.PrintLast
set_option linter.unusedVariables false

theorem row4 {b c d : Int} (h : fromB [0, b, c, d] 4 4 = true) : (b = 1 ∧ c = 2 ∧ d = 3) ∨ (b = 1 ∧ c = 3 ∧ d = 2) ∨ (b = 2 ∧ c = 1 ∧ d = 3) ∨ (b = 2 ∧ c = 3 ∧ d = 1) ∨ (b = 3 ∧ c = 1 ∧ d = 2) ∨ (b = 3 ∧ c = 2 ∧ d = 1) := by
  simp [fromB, hasB] at h
  obtain ⟨h0, h1, h2⟩ := h
  rcases h0 with h0 | h0 | h0 <;> rcases h1 with h1 | h1 | h1 <;> (try omega) <;> rcases h2 with h2 | h2 | h2 <;> (try omega) <;> subst h0 <;> subst h1 <;> subst h2 <;> simp
/-- Four, the first one 0. -/
def valRow (row : List Int) : Bool := rowB row 4 && rd row 0 == 0
theorem val_cases {row : List Int} (h : valRow row = true) : row = [0, 1, 2, 3] ∨ row = [0, 1, 3, 2] ∨ row = [0, 2, 1, 3] ∨ row = [0, 2, 3, 1] ∨ row = [0, 3, 1, 2] ∨ row = [0, 3, 2, 1] := by
  unfold valRow rowB at h
  rw [Bool.and_eq_true, Bool.and_eq_true, decide_eq_true_eq] at h
  obtain ⟨⟨hl, hf⟩, h0⟩ := h
  match row, hl, hf, h0 with
  | [a, b, c, d], _, hf, h0 =>
    have e : a = 0 := by simpa [rd] using h0
    subst e
    rcases row4 hf with ⟨rfl, rfl, rfl⟩ | ⟨rfl, rfl, rfl⟩ | ⟨rfl, rfl, rfl⟩ | ⟨rfl, rfl, rfl⟩ | ⟨rfl, rfl, rfl⟩ | ⟨rfl, rfl, rfl⟩ <;> simp
def backV : List Int → List Int
  | [0, 2, 3, 1] => [0, 3, 1, 2]
  | [0, 3, 1, 2] => [0, 2, 3, 1]
  | l => l
theorem back_val {row : List Int} (h : valRow row = true) : valRow (backV row) = true ∧ (backV row).length = 4 ∧ row.length = 4 := by
  rcases val_cases h with rfl | rfl | rfl | rfl | rfl | rfl <;> decide
theorem val_rd {row : List Int} (h : valRow row = true) : rd row 0 = 0 ∧ (∀ x : Int, 1 ≤ x → x ≤ 3 → 1 ≤ rd row x ∧ rd row x ≤ 3) ∧ ∀ x : Int, 0 ≤ x → x ≤ 3 → rd (backV row) (rd row x) = x := by
  have cs : ∀ x : Int, 1 ≤ x → x ≤ 3 → x = 1 ∨ x = 2 ∨ x = 3 := fun x h0 h2 => by omega
  have cs' : ∀ x : Int, 0 ≤ x → x ≤ 3 → x = 0 ∨ x = 1 ∨ x = 2 ∨ x = 3 := fun x h0 h2 => by omega
  rcases val_cases h with rfl | rfl | rfl | rfl | rfl | rfl <;> exact ⟨rfl, fun x h0 h2 => by rcases cs x h0 h2 with rfl | rfl | rfl <;> decide, fun x h0 h2 => by rcases cs' x h0 h2 with rfl | rfl | rfl | rfl <;> decide⟩
def valsG (row : List Int) (d : S85) : S85 := ⟨d.f0, d.f1, rd row d.f2⟩
theorem val_range {a b c : Int} (h : doB a b c = true) : 0 ≤ c ∧ c ≤ 3 := by
  have := (do_parts h).2
  split at this <;> omega
theorem vals_do {row : List Int} (h : valRow row = true) (d : S85) (hd : doB d.f0 d.f1 d.f2 = true) : doB (valsG row d).f0 (valsG row d).f1 (valsG row d).f2 = true := by
  have hp := (do_parts hd).2
  have hr := val_rd h
  unfold valsG
  unfold doB at hd ⊢
  rw [Bool.and_eq_true] at hd ⊢
  refine ⟨hd.1, ?_⟩
  by_cases hu : vaB d.f0 = true
  · rw [if_pos hu] at hp
    rw [if_pos hu]
    have := hr.2.1 _ hp.1 hp.2
    unfold inR
    simp only [Bool.and_eq_true, decide_eq_true_eq]
    exact this
  · rw [if_neg hu] at hp
    rw [if_neg hu]
    simp only [hp, hr.1, BEq.rfl]
theorem vals_back {row : List Int} (h : valRow row = true) (d : S85) (hd : doB d.f0 d.f1 d.f2 = true) : valsG (backV row) (valsG row d) = d := by
  have hr := val_range hd
  unfold valsG
  rw [(val_rd h).2.2 _ hr.1 hr.2]
theorem sValsInner (row : List Int) (hr : row.length = 4) (p out : List (List S85)) (x : Int) (R : List (List S85) × Bool) : ∀ (b a : List S85), (∀ d ∈ b, doB d.f0 d.f1 d.f2 = true) → a.length + b.length ≤ 1048576 → out.length ≤ 1000 →
    Ev (fun k => spec_TurnVals.l0 k row (wrap64 (x + 1)) p (out ++ [a ++ b.map (valsG row)])) R → Ev (fun k => spec_TurnVals.l1 k row x (a ++ b) (a.length : Int) p out) R
  | [], a, _, _, ho, h => by
    refine Ev.succ ?_
    simp only [spec_TurnVals.l1, List.append_nil, Int.lt_irrefl, if_false, if_pos (show out.length < 5864062014805 by omega)]
    simpa using h
  | d :: b, a, hb, hl, ho, h => by
    simp only [List.length_cons] at hl
    have hpt := val_range (hb d List.mem_cons_self)
    refine Ev.succ ?_
    have hg : rd_T85 (a ++ d :: b) (a.length : Int) = d := by
      rw [rd_T85_get (by simp)]
      simp
    simp only [spec_TurnVals.l1, hg, if_pos (show (a.length : Int) < ((a ++ d :: b).length : Int) by simp; omega), if_pos (show (0 : Int) ≤ (a.length : Int) by omega), Int.toNat_natCast, set_at, if_pos hpt.1, if_pos (show d.f2 < (row.length : Int) by omega)]
    rw [w64' (by omega) (by omega)]
    have ih := sValsInner row hr p out x R b (a ++ [valsG row d]) (fun y hy => hb y (List.mem_cons_of_mem _ hy)) (by simp; omega) ho (by simpa using h)
    simp only [List.append_assoc, List.singleton_append, List.length_append, List.length_singleton, Int.natCast_add, Int.cast_ofNat_Int] at ih
    exact ih
theorem sValsOuter (row : List Int) (hr : row.length = 4) (p : List (List S85)) (hp : Short p) (hk : okP p = true) : ∀ (m : Nat) (out : List (List S85)), m ≤ p.length → out.length + m ≤ 1000 →
    Ev (fun k => spec_TurnVals.l0 k row ((p.length - m : Nat) : Int) p out) (out ++ mapP (valsG row) (p.drop (p.length - m)), true)
  | 0, out, _, _ => by
    refine Ev.succ (Ev.now fun k => ?_)
    simp [spec_TurnVals.l0, mapP]
  | m + 1, out, hm, ho => by
    have hlt : p.length - (m + 1) < p.length := by omega
    have hd : p.drop (p.length - (m + 1)) = p[p.length - (m + 1)] :: p.drop (p.length - m) := by
      rw [List.drop_eq_getElem_cons hlt, show p.length - (m + 1) + 1 = p.length - m by omega]
    have hl := hp.at hlt
    have hp1 := hp.1
    rw [hd]
    refine Ev.succ ?_
    simp only [spec_TurnVals.l0, Option.bind_some, rd_L7_get hlt, List.length_nil, Nat.zero_add, List.nil_append, if_pos (show ((p.length - (m + 1) : Nat) : Int) < (p.length : Int) by omega), if_pos (show (0 : Int) ≤ ((p.length - (m + 1) : Nat) : Int) by omega), if_pos (show p[p.length - (m + 1)].length < 5864062014805 by omega)]
    have ih := sValsOuter row hr p hp hk m (out ++ [p[p.length - (m + 1)].map (valsG row)]) (by omega) (by simp; omega)
    have := sValsInner row hr p out ((p.length - (m + 1) : Nat) : Int) (out ++ [p[p.length - (m + 1)].map (valsG row)] ++ mapP (valsG row) (p.drop (p.length - m)), true) p[p.length - (m + 1)] [] (okP_do hk _ (List.getElem_mem hlt)) (by simpa using hl) (by omega) (by
      rw [w64' (by omega) (by omega), show ((p.length - (m + 1) : Nat) : Int) + 1 = ((p.length - m : Nat) : Int) by omega]
      simpa using ih)
    exact Ev.of (by simpa using this) (by simp [mapP])
def valued (p : List (List S85)) (row : List Int) : List (List S85) × Bool := if okP p = true ∧ valRow row = true then (mapP (valsG row) p, true) else ([], false)
theorem rowB_len {row : List Int} {n : Nat} (h : rowB row n = true) : row.length = n := by
  unfold rowB at h
  rw [Bool.and_eq_true, decide_eq_true_eq] at h
  exact h.1
theorem sVals (p : List (List S85)) (hp : Short p) (row : List Int) (hr : row.length ≤ 1048576) : Ev (fun k => spec_TurnVals.f k p row) (valued p row) := by
  unfold spec_TurnVals.f valued
  refine Ev.bind (sProg p hp) ?_
  by_cases h : okP p = true
  · simp only [if_pos h]
    refine Ev.bind (sRow row hr 4 (by omega)) ?_
    by_cases hb : rowB row 4 = true
    · have hl := rowB_len hb
      simp only [if_pos hb, if_pos (show (0 : Int) < (row.length : Int) by omega)]
      refine Ev.succ ?_
      by_cases h0 : rd row 0 = 0
      · rw [if_pos ⟨h, by unfold valRow; rw [hb, h0]; rfl⟩]
        simp only [spec_TurnVals.j0, h0, bne_self_eq_false, Bool.false_eq_true, if_false]
        have := sValsOuter row hl p hp h p.length [] (Nat.le_refl _) (by have := hp.1; simp; omega)
        rw [Nat.sub_self] at this
        exact this
      · rw [if_neg (fun e => h0 (by have := e.2; unfold valRow at this; simpa using ((Bool.and_eq_true _ _).mp this).2))]
        simp only [spec_TurnVals.j0, show (rd row 0 != 0) = true by simpa using h0, if_true]
        exact Ev.const
    · rw [if_neg (fun e => hb ((Bool.and_eq_true _ _).mp e.2).1)]
      simp only [if_neg hb]
      refine Ev.succ ?_
      simp only [spec_TurnVals.j0, if_true]
      exact Ev.const
  · simp only [if_neg h]
    rw [if_neg (fun e => h e.1)]
    refine Ev.succ ?_
    simp only [spec_TurnVals.j0, if_true]
    exact Ev.const
theorem iVals (p : List (List S85)) (hp : Short p) (row : List Int) (hr : row.length ≤ 1048576) : Ev (fun k => impl_TurnVals.f k p row) (valued p row) := by
  unfold impl_TurnVals.f valued
  refine Ev.bind (iProg p hp) ?_
  by_cases h : okP p = true
  · simp only [if_pos h]
    refine Ev.bind (iRow row hr 4 (by omega)) ?_
    by_cases hb : rowB row 4 = true
    · have hl := rowB_len hb
      simp only [if_pos hb, if_pos (show (0 : Int) < (row.length : Int) by omega)]
      by_cases h0 : rd row 0 = 0
      · rw [if_pos ⟨h, by unfold valRow; rw [hb, h0]; rfl⟩]
        simp only [if_pos h0]
        unfold impl_TurnVals.body
        refine Ev.bind (copy_ev p hp) ?_
        have hm := mapO_mapP (F := valsF row) (g := valsG row) p (fun t ht d hd => by
          have hpt := val_range (okP_do h t ht d hd)
          unfold valsF valsG
          rw [if_pos ⟨hpt.1, by omega⟩])
        simp only [hm, Option.bind_some]
        exact Ev.const
      · rw [if_neg (fun e => h0 (by have := e.2; unfold valRow at this; simpa using ((Bool.and_eq_true _ _).mp this).2))]
        simp only [if_neg h0]
        exact Ev.const
    · rw [if_neg (fun e => hb ((Bool.and_eq_true _ _).mp e.2).1)]
      simp only [if_neg hb]
      exact Ev.const
  · simp only [if_neg h]
    rw [if_neg (fun e => h e.1)]
    exact Ev.const
end Go.Proofs.Ytefkbmhkhpekjaa.Pure

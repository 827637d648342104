/- A program made plain: what the two functions answer, and that it stays ok. Plain Lean over the printed functions; no condition but that the program is short. -/
import Derived.Test.YtefkbmhkhpekjaaPBx35
import Derived.Test.YtefkbmhkhpekjaaJFnExactTurnPlainx0
import Derived.Test.YtefkbmhkhpekjaaJFnExactTurnPlainyOkProg
namespace Go.Proofs.Ytefkbmhkhpekjaa.Pure
open Go.RowKit Go.Proofs.Ytefkbmhkhpekjaa.PB Go.Proofs.YtefkbmhkhpekjaaW.PrintWords Go.Proofs.YtefkbmhkhpekjaaW.PrintLast
set_option linter.unusedVariables false

theorem copiedL (p : List (List S85)) (hp : Short p) : ∀ (m : Nat) (acc : List (List S85)), m ≤ p.length → acc.length + m ≤ 100000 → Ev (fun k => impl_Prog_copied.l0 k p (p.length : Int) ((p.length - m : Nat) : Int) acc) (acc ++ p.drop (p.length - m))
  | 0, acc, _, _ => by
    refine Ev.succ (Ev.now fun k => ?_)
    simp [impl_Prog_copied.l0]
  | m + 1, acc, hm, ha => by
    have hlt : p.length - (m + 1) < p.length := by omega
    have hd : p.drop (p.length - (m + 1)) = p[p.length - (m + 1)] :: p.drop (p.length - m) := by
      rw [List.drop_eq_getElem_cons hlt, show p.length - (m + 1) + 1 = p.length - m by omega]
    have hl := hp.at hlt
    have hp1 := hp.1
    rw [hd]
    refine Ev.succ ?_
    simp only [impl_Prog_copied.l0, rd_L7_get hlt, impl_Do_98.f, if_pos (show p[p.length - (m + 1)].length < 1048577 by omega), Option.bind_some]
    simp only [if_pos (show ((p.length - (m + 1) : Nat) : Int) < (p.length : Int) by omega), if_pos (show (0 : Int) ≤ ((p.length - (m + 1) : Nat) : Int) by omega), if_pos (show acc.length < 5864062014805 by omega)]
    rw [w64' (by omega) (by omega), show ((p.length - (m + 1) : Nat) : Int) + 1 = ((p.length - m : Nat) : Int) by omega]
    exact (copiedL p hp m _ (by omega) (by simp; omega)).of (by simp)
theorem copied_ev (p : List (List S85)) (hp : Short p) : Ev (fun k => impl_Prog_copied.f k p) p := by
  have := copiedL p hp p.length [] (Nat.le_refl _) (by have := hp.1; simp; omega)
  rw [Nat.sub_self] at this
  exact this
/-- A step, a program, made plain. -/
def plainS (d : S85) : S85 := ⟨plainK d.f0, d.f1, d.f2⟩
def plainP (p : List (List S85)) : List (List S85) := p.map (List.map plainS)
theorem kind_of {a b c : Int} (h : doB a b c = true) : 0 ≤ a ∧ a ≤ 9 := by
  unfold doB inR at h
  simp only [Bool.and_eq_true, decide_eq_true_eq] at h
  omega
theorem mapO_row : ∀ l : List S85, (∀ d ∈ l, doB d.f0 d.f1 d.f2 = true) → mapO plainF l = some (l.map plainS)
  | [], _ => rfl
  | d :: l, h => by
    have hk := kind_of (h d List.mem_cons_self)
    simp only [mapO, plainF, if_pos hk, Option.bind_some, mapO_row l (fun x hx => h x (List.mem_cons_of_mem _ hx))]
    rfl
theorem mapO_rows : ∀ p : List (List S85), (∀ t ∈ p, ∀ d ∈ t, doB d.f0 d.f1 d.f2 = true) → mapO (mapO plainF) p = some (plainP p)
  | [], _ => rfl
  | t :: p, h => by
    simp only [mapO, mapO_row t (h t List.mem_cons_self), Option.bind_some, mapO_rows p (fun x hx => h x (List.mem_cons_of_mem _ hx))]
    rfl
theorem implPlain (p : List (List S85)) (hp : Short p) : Ev (fun k => impl_TurnPlain.f k p) (if okP p = true then plainP p else []) := by
  unfold impl_TurnPlain.f
  refine Ev.bind (iProg p hp) ?_
  by_cases h : okP p = true
  · simp only [if_pos h]
    refine Ev.bind (copied_ev p hp) ?_
    simp only [mapO_rows p (okP_do h)]
    exact Ev.const
  · simp only [if_neg h]
    exact Ev.const
theorem set_mid {α : Type} (a b : List α) (x y : α) : (a ++ x :: b).set a.length y = a ++ y :: b := by
  rw [List.set_append_right _ _ (Nat.le_refl _), Nat.sub_self]
  rfl
theorem specInner (p out : List (List S85)) (x : Int) (R : List (List S85)) : ∀ (b a : List S85), a.length + b.length ≤ 1048576 → out.length ≤ 1000 →
    Ev (fun k => spec_TurnPlain.l0 k (wrap64 (x + 1)) p (out ++ [a ++ b.map plainS])) R → Ev (fun k => spec_TurnPlain.l1 k x (a ++ b) (a.length : Int) p out) R
  | [], a, _, ho, h => by
    refine Ev.succ ?_
    simp only [spec_TurnPlain.l1, List.append_nil, Int.lt_irrefl, if_false, if_pos (show out.length < 5864062014805 by omega)]
    simpa using h
  | d :: b, a, hl, ho, h => by
    simp only [List.length_cons] at hl
    refine Ev.succ ?_
    have hg : rd_T85 (a ++ d :: b) (a.length : Int) = d := by
      rw [rd_T85_get (by simp)]
      simp
    simp only [spec_TurnPlain.l1, hg, if_pos (show (a.length : Int) < ((a ++ d :: b).length : Int) by simp; omega), if_pos (show (0 : Int) ≤ (a.length : Int) by omega), Int.toNat_natCast, set_mid]
    rw [w64' (by omega) (by omega)]
    have ih := specInner p out x R b (a ++ [plainS d]) (by simp; omega) ho (by simpa using h)
    simp only [List.append_assoc, List.singleton_append, List.length_append, List.length_singleton, Int.natCast_add, Int.cast_ofNat_Int] at ih
    by_cases h5 : d.f0 = 5
    · simp only [if_pos h5]
      rw [show plainS d = ⟨2, d.f1, d.f2⟩ by simp [plainS, plainK, h5]] at ih
      exact ih
    simp only [if_neg h5]
    by_cases h6 : d.f0 = 6
    · simp only [if_pos h6]
      rw [show plainS d = ⟨1, d.f1, d.f2⟩ by simp [plainS, plainK, h6]] at ih
      exact ih
    simp only [if_neg h6]
    rw [show plainS d = d by simp [plainS, plainK, h5, h6]] at ih
    exact ih
theorem specOuter (p : List (List S85)) (hp : Short p) (hk : okP p = true) : ∀ (m : Nat) (out : List (List S85)), m ≤ p.length → out.length + m ≤ 1000 →
    Ev (fun k => spec_TurnPlain.l0 k ((p.length - m : Nat) : Int) p out) (out ++ plainP (p.drop (p.length - m)))
  | 0, out, _, _ => by
    refine Ev.succ ?_
    simp only [spec_TurnPlain.l0, Nat.sub_zero, Int.lt_irrefl, if_false]
    refine Ev.succ (Ev.now fun k => ?_)
    simp [spec_TurnPlain.j1, plainP]
  | m + 1, out, hm, ho => by
    have hlt : p.length - (m + 1) < p.length := by omega
    have hd : p.drop (p.length - (m + 1)) = p[p.length - (m + 1)] :: p.drop (p.length - m) := by
      rw [List.drop_eq_getElem_cons hlt, show p.length - (m + 1) + 1 = p.length - m by omega]
    have hl := hp.at hlt
    have hp1 := hp.1
    rw [hd]
    refine Ev.succ ?_
    simp only [spec_TurnPlain.l0, if_pos (show ((p.length - (m + 1) : Nat) : Int) < (p.length : Int) by omega)]
    refine Ev.bind (sProg p hp) (Ev.succ ?_)
    simp only [spec_TurnPlain.j1, hk, if_true, Option.bind_some, rd_L7_get hlt, List.length_nil, Nat.zero_add, List.nil_append, if_pos (show ((p.length - (m + 1) : Nat) : Int) < (p.length : Int) by omega), if_pos (show (0 : Int) ≤ ((p.length - (m + 1) : Nat) : Int) by omega), if_pos (show p[p.length - (m + 1)].length < 5864062014805 by omega)]
    have ih := specOuter p hp hk m (out ++ [p[p.length - (m + 1)].map plainS]) (by omega) (by simp; omega)
    have := specInner p out ((p.length - (m + 1) : Nat) : Int) (out ++ [p[p.length - (m + 1)].map plainS] ++ plainP (p.drop (p.length - m))) p[p.length - (m + 1)] [] (by simpa using hl) (by omega) (by
      rw [w64' (by omega) (by omega), show ((p.length - (m + 1) : Nat) : Int) + 1 = ((p.length - m : Nat) : Int) by omega]
      simpa using ih)
    exact Ev.of (by simpa using this) (by simp [plainP])
theorem specPlain (p : List (List S85)) (hp : Short p) (h1 : p ≠ []) : Ev (fun k => spec_TurnPlain.f k p) (if okP p = true then plainP p else []) := by
  unfold spec_TurnPlain.f
  by_cases hk : okP p = true
  · rw [if_pos hk]
    have := specOuter p hp hk p.length [] (Nat.le_refl _) (by have := hp.1; simp; omega)
    rw [Nat.sub_self] at this
    exact this
  · rw [if_neg hk]
    have hl : 0 < p.length := List.length_pos_iff.2 h1
    refine Ev.succ ?_
    simp only [spec_TurnPlain.l0, if_pos (show (0 : Int) < (p.length : Int) by omega)]
    refine Ev.bind (sProg p hp) (Ev.succ (Ev.now fun k => ?_))
    simp only [spec_TurnPlain.j1, if_neg hk]
theorem plain_short {p : List (List S85)} (h : Short p) : Short (plainP p) := by
  refine ⟨by simpa [plainP] using h.1, fun t ht => ?_⟩
  obtain ⟨u, hu, rfl⟩ := List.mem_map.1 ht
  simpa using h.2 u hu
theorem plainK_cases (a : Int) : a = 5 ∨ a = 6 ∨ a ≠ 5 ∧ a ≠ 6 ∧ plainK a = a := by
  by_cases h5 : a = 5
  · exact .inl h5
  by_cases h6 : a = 6
  · exact .inr (.inl h6)
  exact .inr (.inr ⟨h5, h6, by simp [plainK, h5, h6]⟩)
theorem plain_rd (a : Int) : rdB (plainK a) = rdB a := by
  rcases plainK_cases a with rfl | rfl | ⟨_, _, h⟩
  · rfl
  · rfl
  · rw [h]
theorem plain_us (a : Int) : usB (plainK a) = usB a := by
  rcases plainK_cases a with rfl | rfl | ⟨_, _, h⟩
  · rfl
  · rfl
  · rw [h]
theorem plain_do (a b c : Int) : doB (plainK a) b c = doB a b c := by
  rcases plainK_cases a with rfl | rfl | ⟨_, _, h⟩
  · rfl
  · rfl
  · rw [h]
theorem plain_wrong (a : Int) (r i : Bool) : wrongB (plainK a) r i = wrongB a r i := by
  rcases plainK_cases a with rfl | rfl | ⟨_, _, h⟩
  · rfl
  · rfl
  · rw [h]
theorem plain_in (a : Int) (i : Bool) : inB (plainK a) i = inB a i := by
  rcases plainK_cases a with rfl | rfl | ⟨_, _, h⟩
  · rfl
  · rfl
  · rw [h]
theorem plain_th : ∀ (l : List S85) (r i : Bool), thB (l.map plainS) r i = thB l r i
  | [], _, _ => rfl
  | d :: l, r, i => by
    simp only [List.map_cons, thB, plainS, plain_do, plain_wrong, plain_rd, plain_in]
    rw [← plain_th l]
theorem plain_uses : ∀ l : List S85, usesI (l.map plainS) = usesI l
  | [] => rfl
  | d :: l => by simp only [List.map_cons, usesI, plainS, plain_us]; rw [← plain_uses l]
theorem plain_reads : ∀ l : List S85, readsI (l.map plainS) = readsI l
  | [] => rfl
  | d :: l => by simp only [List.map_cons, readsI, plainS, plain_rd]; rw [← plain_reads l]
theorem plain_okL : ∀ (p : List (List S85)) (n u : Int), okL (plainP p) n u = okL p n u
  | [], _, _ => rfl
  | t :: p, n, u => by
    show (threadB (t.map plainS) && okL (plainP p) (n + (t.map plainS).length) (u + usesI (t.map plainS))) = _
    rw [plain_okL p, plain_uses, List.length_map]
    simp only [okL, threadB, plain_th, List.length_map]
theorem plain_ok (p : List (List S85)) : okP (plainP p) = okP p := by
  unfold okP
  rw [plain_okL]
  simp [plainP]
theorem plain_readsP : ∀ p : List (List S85), readsP (plainP p) = readsP p
  | [] => rfl
  | t :: p => by
    show readsI (t.map plainS) + readsP (plainP p) = _
    rw [plain_readsP p, plain_reads]
    rfl
theorem plainS_twice (d : S85) : plainS (plainS d) = plainS d := by
  unfold plainS
  rw [show plainK (plainK d.f0) = plainK d.f0 from by
    rcases plainK_cases d.f0 with h | h | ⟨_, _, h⟩
    · rw [h]; rfl
    · rw [h]; rfl
    · rw [h]; exact h]
theorem plain_twice (p : List (List S85)) : plainP (plainP p) = plainP p := by
  unfold plainP
  rw [List.map_map]
  congr 1
  funext t
  show (t.map plainS).map plainS = t.map plainS
  rw [List.map_map]
  congr 1
  funext d
  exact plainS_twice d
end Go.Proofs.Ytefkbmhkhpekjaa.Pure

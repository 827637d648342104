/- A program whose steps are changed one by one: what the printed functions answer, and when it stays ok. Plain Lean; no condition but that the program is short. -/
import Derived.Test.YtefkbmhkhpekjaaJFnExactTurnPlacesyOkProg
import Derived.Test.YtefkbmhkhpekjaaJFnExactTurnPlacesx1
namespace Go.Proofs.Ytefkbmhkhpekjaa.Pure
open Go.RowKit Go.Proofs.Ytefkbmhkhpekjaa.PB Go.Proofs.YtefkbmhkhpekjaaW.PrintWords Go.Proofs.YtefkbmhkhpekjaaW.PrintLast
set_option linter.unusedVariables false

theorem copyL (p : List (List S85)) (hp : Short p) : ∀ (m : Nat) (acc : List (List S85)), m ≤ p.length → acc.length + m ≤ 100000 → Ev (fun k => impl_Prog_copied.l0 k p (p.length : Int) ((p.length - m : Nat) : Int) acc) (acc ++ p.drop (p.length - m))
  | 0, acc, _, _ => by
    refine Ev.succ (Ev.now fun k => ?_)
    simp [impl_Prog_copied.l0]
  | m + 1, acc, hm, ha => by
    have hlt : p.length - (m + 1) < p.length := by omega
    have hd : p.drop (p.length - (m + 1)) = p[p.length - (m + 1)] :: p.drop (p.length - m) := by
      rw [List.drop_eq_getElem_cons hlt, show p.length - (m + 1) + 1 = p.length - m by omega]
    have hl := hp.at hlt
    have hp1 := hp.1
    rw [hd]
    refine Ev.succ ?_
    simp only [impl_Prog_copied.l0, rd_L7_get hlt, impl_Do_98.f, if_pos (show p[p.length - (m + 1)].length < 1048577 by omega), Option.bind_some]
    simp only [if_pos (show ((p.length - (m + 1) : Nat) : Int) < (p.length : Int) by omega), if_pos (show (0 : Int) ≤ ((p.length - (m + 1) : Nat) : Int) by omega), if_pos (show acc.length < 5864062014805 by omega)]
    rw [w64' (by omega) (by omega), show ((p.length - (m + 1) : Nat) : Int) + 1 = ((p.length - m : Nat) : Int) by omega]
    exact (copyL p hp m _ (by omega) (by simp; omega)).of (by simp)
theorem copy_ev (p : List (List S85)) (hp : Short p) : Ev (fun k => impl_Prog_copied.f k p) p := by
  have := copyL p hp p.length [] (Nat.le_refl _) (by have := hp.1; simp; omega)
  rw [Nat.sub_self] at this
  exact this
/-- Each step changed. -/
def mapP (g : S85 → S85) (p : List (List S85)) : List (List S85) := p.map (List.map g)
theorem mapO_map {α : Type} {F : α → Option α} {g : α → α} : ∀ l : List α, (∀ d ∈ l, F d = some (g d)) → mapO F l = some (l.map g)
  | [], _ => rfl
  | d :: l, h => by
    simp only [mapO, h d List.mem_cons_self, Option.bind_some, mapO_map l (fun x hx => h x (List.mem_cons_of_mem _ hx))]
    rfl
theorem mapO_mapP {F : S85 → Option S85} {g : S85 → S85} (p : List (List S85)) (h : ∀ t ∈ p, ∀ d ∈ t, F d = some (g d)) : mapO (mapO F) p = some (mapP g p) :=
  mapO_map p (fun t ht => mapO_map t (h t ht))
theorem mapP_short {g : S85 → S85} {p : List (List S85)} (h : Short p) : Short (mapP g p) := by
  refine ⟨by simpa [mapP] using h.1, fun t ht => ?_⟩
  obtain ⟨u, hu, rfl⟩ := List.mem_map.1 ht
  simpa using h.2 u hu
theorem mapP_id {g : S85 → S85} {p : List (List S85)} (h : ∀ t ∈ p, ∀ d ∈ t, g d = d) : mapP g p = p := by
  unfold mapP
  conv => rhs; rw [← List.map_id p]
  refine List.map_congr_left (fun t ht => ?_)
  conv => rhs; rw [id, ← List.map_id t]
  exact List.map_congr_left (fun d hd => h t ht d hd)
theorem mapP_mapP {g h : S85 → S85} {p : List (List S85)} : mapP g (mapP h p) = mapP (fun d => g (h d)) p := by
  unfold mapP
  rw [List.map_map]
  refine List.map_congr_left (fun t _ => ?_)
  show (t.map h).map g = t.map _
  rw [List.map_map]
  rfl
theorem map_th {g : S85 → S85} (hk : ∀ d, (g d).f0 = d.f0) (hd : ∀ d : S85, doB d.f0 d.f1 d.f2 = true → doB (g d).f0 (g d).f1 (g d).f2 = true) : ∀ (l : List S85) (r i : Bool), thB l r i = true → thB (l.map g) r i = true
  | [], _, _, h => h
  | d :: l, r, i, h => by
    simp only [thB, Bool.and_eq_true] at h
    simp only [List.map_cons, thB, Bool.and_eq_true]
    rw [hk d]
    have := hd d h.1.1
    rw [hk d] at this
    exact ⟨⟨this, h.1.2⟩, map_th hk hd l _ _ h.2⟩
theorem map_uses {g : S85 → S85} (hk : ∀ d, (g d).f0 = d.f0) : ∀ l : List S85, usesI (l.map g) = usesI l
  | [] => rfl
  | d :: l => by simp only [List.map_cons, usesI, hk d]; rw [map_uses hk l]
theorem map_okL {g : S85 → S85} (hk : ∀ d, (g d).f0 = d.f0) (hd : ∀ d : S85, doB d.f0 d.f1 d.f2 = true → doB (g d).f0 (g d).f1 (g d).f2 = true) : ∀ (p : List (List S85)) (n u : Int), okL p n u = true → okL (mapP g p) n u = true
  | [], _, _, h => h
  | t :: p, n, u, h => by
    simp only [okL, threadB, Bool.and_eq_true, decide_eq_true_eq] at h
    show (threadB (t.map g) && okL (mapP g p) (n + (t.map g).length) (u + usesI (t.map g))) = true
    rw [map_uses hk, List.length_map]
    simp only [threadB, List.length_map, Bool.and_eq_true, decide_eq_true_eq]
    exact ⟨⟨h.1.1, map_th hk hd t _ _ h.1.2⟩, map_okL hk hd p _ _ h.2⟩
theorem map_ok {g : S85 → S85} (hk : ∀ d, (g d).f0 = d.f0) (hd : ∀ d : S85, doB d.f0 d.f1 d.f2 = true → doB (g d).f0 (g d).f1 (g d).f2 = true) {p : List (List S85)} (h : okP p = true) : okP (mapP g p) = true := by
  unfold okP at h ⊢
  rw [Bool.and_eq_true] at h ⊢
  exact ⟨by simpa [mapP] using h.1, map_okL hk hd p 0 0 h.2⟩
theorem set_at {α : Type} (a b : List α) (x y : α) : (a ++ x :: b).set a.length y = a ++ y :: b := by
  rw [List.set_append_right _ _ (Nat.le_refl _), Nat.sub_self]
  rfl
theorem do_parts {a b c : Int} (h : doB a b c = true) : (if usB a = true then 0 ≤ b ∧ b ≤ 2 else b = 0) ∧ (if vaB a = true then 1 ≤ c ∧ c ≤ 3 else c = 0) := by
  unfold doB inR at h
  rw [Bool.and_eq_true, Bool.and_eq_true] at h
  refine ⟨?_, ?_⟩
  · have h2 := h.1.2
    split
    · rename_i e; rw [if_pos e] at h2; simpa using h2
    · rename_i e; rw [if_neg e] at h2; simpa using h2
  · have h2 := h.2
    split
    · rename_i e; rw [if_pos e] at h2; simpa using h2
    · rename_i e; rw [if_neg e] at h2; simpa using h2
end Go.Proofs.Ytefkbmhkhpekjaa.Pure

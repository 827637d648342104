/- What was seen, turned: the two functions answer the same. Plain Lean over the printed functions; no condition but the sizes. -/
import Derived.Test.YtefkbmhkhpekjaaJFnExactTurnSeenx3
import Derived.Test.YtefkbmhkhpekjaaJFnExactTurnSeenx2
import Derived.Test.YtefkbmhkhpekjaaJFnExactTurnSeenySeenOk
import Derived.Test.YtefkbmhkhpekjaaJFnExactTurnSeenyRowOk
namespace Go.Proofs.Ytefkbmhkhpekjaa.Pure
open Go.RowKit Go.Proofs.Ytefkbmhkhpekjaa.PB Go.Proofs.YtefkbmhkhpekjaaW.PrintWords Go.Proofs.YtefkbmhkhpekjaaW.PrintLast
set_option linter.unusedVariables false

/-- From .. to. -/
def cutI (sr : List Int) (a b : Int) : List Int := (sr.take b.toNat).drop a.toNat
theorem cutI_le (sr : List Int) (a b : Int) : (cutI sr a b).length ≤ sr.length := by unfold cutI; simp; omega
/-- The reads of each thread, the first from place s on. -/
def partsR : List (List S85) → List Int → Int → List (List Int)
  | [], _, _ => []
  | t :: p, sr, s => cutI sr s (s + readsI t) :: partsR p sr (s + readsI t)
/-- Where each thread's reads begin, and the end. -/
def preL : List (List S85) → Int → List Int
  | [], s => [s]
  | t :: p, s => s :: preL p (s + readsI t)
theorem partsR_length : ∀ (p : List (List S85)) (sr : List Int) (s : Int), (partsR p sr s).length = p.length
  | [], _, _ => rfl
  | t :: p, sr, s => by simp [partsR, partsR_length p]
theorem preL_length : ∀ (p : List (List S85)) (s : Int), (preL p s).length = p.length + 1
  | [], _ => rfl
  | t :: p, s => by simp [preL, preL_length p]
theorem preL_zero (p : List (List S85)) (s : Int) : (preL p s).getD 0 0 = s := by cases p <;> rfl
theorem preL_snoc : ∀ (p : List (List S85)) (t : List S85) (s : Int), preL (p ++ [t]) s = preL p s ++ [s + readsP p + readsI t]
  | [], t, s => by simp [preL, readsP]
  | u :: p, t, s => by
    simp only [List.cons_append, preL, preL_snoc p t, readsP]
    rw [show s + readsI u + readsP p + readsI t = s + (readsI u + readsP p) + readsI t by omega]
theorem preL_last : ∀ (p : List (List S85)) (s : Int), (preL p s).getD p.length 0 = s + readsP p
  | [], s => by simp [preL, readsP]
  | u :: p, s => by
    simp only [preL, List.length_cons, List.getD_cons_succ, preL_last p, readsP]
    omega
theorem readsP_pos : ∀ p : List (List S85), 0 ≤ readsP p
  | [] => by simp [readsP]
  | t :: p => by have := readsP_pos p; have := (readsI_le t).1; simp only [readsP]; omega
theorem readsP_snoc : ∀ (p : List (List S85)) (t : List S85), readsP (p ++ [t]) = readsP p + readsI t
  | [], t => by simp [readsP]
  | u :: p, t => by simp only [List.cons_append, readsP, readsP_snoc p t]; omega
theorem readsP_app' : ∀ p q : List (List S85), readsP (p ++ q) = readsP p + readsP q
  | [], q => by simp [readsP]
  | t :: p, q => by simp only [List.cons_append, readsP, readsP_app' p q]; omega
/-- A part is what lies between two begins. -/
theorem parts_pre : ∀ (p : List (List S85)) (sr : List Int) (s : Int) (j : Nat), j < p.length → (partsR p sr s).getD j [] = cutI sr ((preL p s).getD j 0) ((preL p s).getD (j + 1) 0)
  | [], _, _, j, h => absurd h (by simp)
  | t :: p, sr, s, 0, _ => by
    simp only [partsR, preL, List.getD_cons_zero, List.getD_cons_succ, preL_zero]
  | t :: p, sr, s, j + 1, h => by
    simp only [partsR, preL, List.getD_cons_succ]
    exact parts_pre p sr (s + readsI t) j (by simpa using h)
theorem pre_mono : ∀ (p : List (List S85)) (s : Int) (j : Nat), j < p.length → s ≤ (preL p s).getD j 0 ∧ (preL p s).getD j 0 ≤ (preL p s).getD (j + 1) 0 ∧ (preL p s).getD (j + 1) 0 ≤ s + readsP p
  | [], _, j, h => absurd h (by simp)
  | t :: p, s, 0, _ => by
    have h1 := readsP_pos p
    have h2 := (readsI_le t).1
    simp only [preL, List.getD_cons_zero, List.getD_cons_succ, preL_zero, readsP]
    omega
  | t :: p, s, j + 1, h => by
    have h1 := (readsI_le t).1
    have := pre_mono p (s + readsI t) j (by simpa using h)
    simp only [preL, List.getD_cons_succ, readsP]
    omega
/-- The reads, turned. -/
def turnR (p : List (List S85)) (sr row : List Int) : List Int := (row.map (rd_L4 (partsR p sr 0))).flatten
def seenT (p : List (List S85)) (sr sl row : List Int) : List Int × List Int × Bool := if okS p sr sl = true ∧ rowB row p.length = true then (turnR p sr row, sl, true) else ([], [], false)
theorem iSeen1 (ps : List (List Int)) (row sl : List Int) (hr : row.length ≤ 1000) (hin : ∀ x ∈ row, 0 ≤ x ∧ x < (ps.length : Int)) (hps : ∀ x, (rd_L4 ps x).length ≤ 1048576) : ∀ (m : Nat) (out : List Int), m ≤ row.length → out.length + 1048576 * m ≤ 10000000000 →
    Ev (fun k => impl_TurnSeen.l1 k ps row (row.length : Int) ((row.length - m : Nat) : Int) out sl) (out ++ ((row.drop (row.length - m)).map (rd_L4 ps)).flatten, sl, true)
  | 0, out, _, _ => by
    refine Ev.succ (Ev.now fun k => ?_)
    simp [impl_TurnSeen.l1]
  | m + 1, out, hm, ho => by
    have hlt : row.length - (m + 1) < row.length := by omega
    have hd : row.drop (row.length - (m + 1)) = row[row.length - (m + 1)] :: row.drop (row.length - m) := by
      rw [List.drop_eq_getElem_cons hlt, show row.length - (m + 1) + 1 = row.length - m by omega]
    have hx := hin _ (List.getElem_mem hlt)
    have hl := hps row[row.length - (m + 1)]
    rw [hd]
    refine Ev.succ ?_
    simp only [impl_TurnSeen.l1, rd_get hlt, if_pos (show ((row.length - (m + 1) : Nat) : Int) < (row.length : Int) by omega), if_pos (show (0 : Int) ≤ ((row.length - (m + 1) : Nat) : Int) by omega), if_pos hx.1, if_pos hx.2, if_pos (show out.length + (rd_L4 ps row[row.length - (m + 1)]).length < 17592186044416 by omega)]
    rw [w64' (by omega) (by omega), show ((row.length - (m + 1) : Nat) : Int) + 1 = ((row.length - m : Nat) : Int) by omega]
    exact (iSeen1 ps row sl hr hin hps m _ (by omega) (by simp; omega)).of (by simp)
theorem iSeen0 (row sr sl : List Int) (hsl : sl.length ≤ 1000) (p : List (List S85)) (hp : Short p) (hsr : (sr.length : Int) = readsP p) (hsr2 : sr.length ≤ 1048576) (R : List Int × List Int × Bool)
    (hR : Ev (fun k => impl_TurnSeen.l1 k (partsR p sr 0) row (row.length : Int) 0 [] sl) R) : ∀ (b a : List (List S85)) (q : List (List Int)), p = a ++ b → q.length = a.length → partsR p sr 0 = q ++ partsR b sr (readsP a) →
    Ev (fun k => impl_TurnSeen.l0 k row (q ++ List.replicate b.length []) (readsP a) p (p.length : Int) (a.length : Int) sr sl) R
  | [], a, q, hab, hq, hpr => by
    refine Ev.succ ?_
    have hl : p.length = a.length := by rw [hab]; simp
    simp only [impl_TurnSeen.l0, hl, Int.lt_irrefl, if_false, List.length_nil, List.replicate_zero, List.append_nil, slices_Clone_int_int.f, if_pos (show sl.length < 1048577 by omega), Option.bind_some]
    rw [show q = partsR p sr 0 by rw [hpr]; simp [partsR]]
    exact hR
  | t :: b, a, q, hab, hq, hpr => by
    have hlt : a.length < p.length := by rw [hab]; simp
    have hg : rd_L7 p (a.length : Int) = t := by
      rw [rd_L7_get hlt]
      simp [hab]
    have ht : t.length ≤ 1048576 := hp.2 t (by rw [hab]; simp)
    have hp1 := hp.1
    have e1 := readsP_pos a
    have e2 := readsP_pos b
    have e3 := readsI_le t
    have e4 : readsP p = readsP a + (readsI t + readsP b) := by rw [hab, readsP_app']; simp [readsP]
    refine Ev.succ ?_
    simp only [impl_TurnSeen.l0, hg, if_pos (show (a.length : Int) < (p.length : Int) by omega), if_pos (show (0 : Int) ≤ (a.length : Int) by omega)]
    refine Ev.bind (readsOf t ht) ?_
    rw [w64' (x := readsP a + readsI t) (by omega) (by omega), w64' (by omega) (by omega)]
    simp only [if_pos e1, if_pos (show readsP a ≤ readsP a + readsI t by omega), if_pos (show readsP a + readsI t ≤ (sr.length : Int) by omega), if_pos (show (a.length : Int) < ((q ++ List.replicate (t :: b).length ([] : List Int)).length : Int) by simp; omega), Int.toNat_natCast]
    have hs : (q ++ List.replicate (t :: b).length ([] : List Int)).set a.length ((sr.take (readsP a + readsI t).toNat).drop (readsP a).toNat) = (q ++ [cutI sr (readsP a) (readsP a + readsI t)]) ++ List.replicate b.length [] := by
      rw [List.length_cons, List.replicate_succ, List.set_append_right (h := by omega), show a.length - q.length = 0 by omega, List.set_cons_zero]
      simp [cutI]
    rw [hs]
    have ih := iSeen0 row sr sl hsl p hp hsr hsr2 R hR b (a ++ [t]) (q ++ [cutI sr (readsP a) (readsP a + readsI t)]) (by rw [hab]; simp) (by simp [hq]) (by rw [hpr, readsP_snoc]; simp [partsR])
    rw [readsP_snoc] at ih
    simpa using ih
theorem part_le (p : List (List S85)) (sr : List Int) (h : sr.length ≤ 1048576) (x : Int) : (rd_L4 (partsR p sr 0) x).length ≤ 1048576 := by
  unfold rd_L4
  rw [List.getD_eq_getElem?_getD]
  rcases e : (partsR p sr 0)[x.toNat]? with _ | t
  · simp
  · have : ∀ (p : List (List S85)) (s : Int), ∀ t ∈ partsR p sr s, t.length ≤ sr.length := by
      intro p
      induction p with
      | nil => intro s t ht; cases ht
      | cons u p ih =>
        intro s t ht
        rcases List.mem_cons.1 ht with rfl | ht
        · exact cutI_le _ _ _
        · exact ih _ t ht
    exact Nat.le_trans (this p 0 t (List.mem_of_getElem? e)) h
theorem okS_parts {p : List (List S85)} {sr sl : List Int} (h : okS p sr sl = true) : okP p = true ∧ (sr.length : Int) = readsP p ∧ sl.length = 3 := by
  unfold okS at h
  simp only [Bool.and_eq_true, decide_eq_true_eq] at h
  exact ⟨h.1.1.1.1, h.1.1.1.2, h.1.1.2⟩
theorem iSeenTurn (p : List (List S85)) (hp : Mid p) (sr sl row : List Int) (h4 : sr.length ≤ 1048576) (h5 : sl.length ≤ 1048576) (hr : row.length ≤ 1048576) : Ev (fun k => impl_TurnSeen.f k p sr sl row) (seenT p sr sl row) := by
  unfold impl_TurnSeen.f seenT
  refine Ev.bind (iSeenOk p hp sr sl) ?_
  cases ho : okS p sr sl
  · simp only [Bool.false_eq_true, if_false, false_and]
    refine Ev.succ ?_
    simp only [impl_TurnSeen.j0, if_true]
    exact Ev.const
  obtain ⟨o1, o2, o3⟩ := okS_parts ho
  have h3 := okP_len o1
  have hs := hp.short h3
  simp only [if_true, true_and]
  refine Ev.bind (iRow row hr p.length (by omega)) ?_
  cases hb : rowB row p.length
  · simp only [Bool.not_false, Bool.false_eq_true, if_false]
    refine Ev.succ ?_
    simp only [impl_TurnSeen.j0, if_true]
    exact Ev.const
  · simp only [Bool.not_true, if_true]
    refine Ev.succ ?_
    simp only [impl_TurnSeen.j0, Bool.false_eq_true, if_false, Int.toNat_natCast, if_pos (show (0 : Int) ≤ (p.length : Int) by omega), if_pos (show p.length ≤ 11728124029610 by omega)]
    have hrl := row_len hb
    have h1 := iSeen1 (partsR p sr 0) row sl (by omega) (by rw [partsR_length]; exact row_in h3 hb) (part_le p sr h4) row.length [] (Nat.le_refl _) (by simp; omega)
    rw [Nat.sub_self] at h1
    have h0 := iSeen0 row sr sl (by omega) p hs o2 h4 (turnR p sr row, sl, true) (by unfold turnR; simpa using h1) p [] [] rfl rfl rfl
    simpa [readsP] using h0
theorem okP_one {p : List (List S85)} (h : okP p = true) : ∀ t ∈ p, okP [t] = true := by
  have key : ∀ (l : List (List S85)) (n u : Int), 0 ≤ n → 0 ≤ u → okL l n u = true → (n ≤ 14 ∧ u ≤ 6) ∧ ∀ t ∈ l, okP [t] = true := by
    intro l
    induction l with
    | nil =>
      intro n u _ _ h
      simp only [okL, Bool.and_eq_true, decide_eq_true_eq] at h
      exact ⟨by omega, fun t ht => by cases ht⟩
    | cons t l ih =>
      intro n u h0 h1 h
      simp only [okL, Bool.and_eq_true] at h
      have hu := usesI_le t
      obtain ⟨h2, h3⟩ := ih _ _ (by omega) (by omega) h.2
      refine ⟨by omega, fun x hx => ?_⟩
      rcases List.mem_cons.1 hx with rfl | hx
      · unfold okP
        simp only [okL, h.1, List.length_singleton, Bool.true_and, Int.zero_add, Bool.and_eq_true, decide_eq_true_eq]
        omega
      · exact h3 x hx
  unfold okP at h
  rw [Bool.and_eq_true] at h
  exact (key p 0 0 (by omega) (by omega) h.2).2
theorem sSeen1 (p : List (List S85)) (sr sl row : List Int) (hsr : (sr.length : Int) = readsP p) (hsr2 : sr.length ≤ 1048576) (hp : p.length ≤ 1000) (hr : row.length ≤ 1000) (hin : ∀ x ∈ row, 0 ≤ x ∧ x < (p.length : Int)) : ∀ (m : Nat) (out : List Int), m ≤ row.length → out.length + 1048576 * m ≤ 10000000000 →
    Ev (fun k => spec_TurnSeen.l1 k row (preL p 0) ((row.length - m : Nat) : Int) sr sl out sl) (out ++ ((row.drop (row.length - m)).map (rd_L4 (partsR p sr 0))).flatten, sl, true)
  | 0, out, _, _ => by
    refine Ev.succ (Ev.now fun k => ?_)
    simp [spec_TurnSeen.l1]
  | m + 1, out, hm, ho => by
    have hlt : row.length - (m + 1) < row.length := by omega
    have hd : row.drop (row.length - (m + 1)) = row[row.length - (m + 1)] :: row.drop (row.length - m) := by
      rw [List.drop_eq_getElem_cons hlt, show row.length - (m + 1) + 1 = row.length - m by omega]
    have hx := hin _ (List.getElem_mem hlt)
    rw [hd]
    generalize hxx : row[row.length - (m + 1)] = x at *
    obtain ⟨j, rfl⟩ := Int.eq_ofNat_of_zero_le hx.1
    have hj : j < p.length := by omega
    have hm := pre_mono p 0 j hj
    have hpl := preL_length p 0
    have e0 : rd (preL p 0) (j : Int) = (preL p 0).getD j 0 := by unfold rd; rw [Int.toNat_natCast]
    have e1 : rd (preL p 0) ((j : Int) + 1) = (preL p 0).getD (j + 1) 0 := by unfold rd; rw [show (j : Int) + 1 = ((j + 1 : Nat) : Int) by omega, Int.toNat_natCast]
    have e2 : rd_L4 (partsR p sr 0) (j : Int) = cutI sr ((preL p 0).getD j 0) ((preL p 0).getD (j + 1) 0) := by unfold rd_L4; rw [Int.toNat_natCast]; exact parts_pre p sr 0 j hj
    have hcl := cutI_le sr ((preL p 0).getD j 0) ((preL p 0).getD (j + 1) 0)
    have hrd : rd row ((row.length - (m + 1) : Nat) : Int) = (j : Int) := by rw [rd_get hlt]; exact hxx
    refine Ev.succ ?_
    simp only [spec_TurnSeen.l1, hrd]
    rw [w64' (x := (j : Int) + 1) (by omega) (by omega), w64' (by omega) (by omega), show ((row.length - (m + 1) : Nat) : Int) + 1 = ((row.length - m : Nat) : Int) by omega, e0, e1]
    generalize hA : (preL p 0).getD j 0 = A at *
    generalize hB : (preL p 0).getD (j + 1) 0 = B at *
    have hcut : ((sr.take B.toNat).drop A.toNat) = cutI sr A B := rfl
    simp only [hcut, if_pos (show ((row.length - (m + 1) : Nat) : Int) < (row.length : Int) by omega), if_pos (show (0 : Int) ≤ ((row.length - (m + 1) : Nat) : Int) by omega), if_pos (show (0 : Int) ≤ (j : Int) by omega), if_pos (show (j : Int) < ((preL p 0).length : Int) by omega), if_pos (show (0 : Int) ≤ (j : Int) + 1 by omega), if_pos (show (j : Int) + 1 < ((preL p 0).length : Int) by omega), if_pos (show 0 ≤ A by omega), if_pos (show A ≤ B by omega), if_pos (show B ≤ (sr.length : Int) by omega), if_pos (show out.length + (cutI sr A B).length < 17592186044416 by omega)]
    exact (sSeen1 p sr sl row hsr hsr2 hp hr hin m _ (by omega) (by simp; omega)).of (by simp [e2])
theorem sSeen0 (row sr sl : List Int) (hsl : sl.length ≤ 1000) (p : List (List S85)) (hp : Short p) (ho : ∀ t ∈ p, okP [t] = true) (hsr : (sr.length : Int) = readsP p) (hsr2 : sr.length ≤ 1048576) (R : List Int × List Int × Bool)
    (hR : Ev (fun k => spec_TurnSeen.l1 k row (preL p 0) 0 sr sl [] sl) R) : ∀ (b a : List (List S85)), p = a ++ b →
    Ev (fun k => spec_TurnSeen.l0 k row (preL a 0) (a.length : Int) p sr sl) R
  | [], a, hab => by
    refine Ev.succ ?_
    have hl : p = a := by rw [hab]; simp
    subst hl
    simp only [spec_TurnSeen.l0, Int.lt_irrefl, if_false, Option.bind_some, List.length_nil, Nat.zero_add, List.nil_append, if_pos (show sl.length < 17592186044416 by omega)]
    exact hR
  | t :: b, a, hab => by
    have hlt : a.length < p.length := by rw [hab]; simp
    have ht : t.length ≤ 1048576 := hp.2 t (by rw [hab]; simp)
    have hp1 := hp.1
    have e1 := readsP_pos a
    have e2 := readsP_pos b
    have e3 := readsI_le t
    have e4 : readsP p = readsP a + (readsI t + readsP b) := by rw [hab, readsP_app']; simp [readsP]
    have hpl := preL_length a 0
    have hg : ((p.take ((a.length : Int) + 1).toNat).drop ((a.length : Int)).toNat) = [t] := by
      rw [show ((a.length : Int) + 1).toNat = a.length + 1 by omega, Int.toNat_natCast, hab, List.take_append]
      simp
    have hr := sProgReads [t] ⟨by simp, fun u hu => by simp at hu; subst hu; exact ht⟩
    rw [if_pos (ho t (by rw [hab]; simp))] at hr
    have hrd : rd (preL a 0) (a.length : Int) = readsP a := by
      unfold rd
      rw [Int.toNat_natCast, preL_last]
      omega
    refine Ev.succ ?_
    simp only [spec_TurnSeen.l0]
    rw [w64' (x := (a.length : Int) + 1) (by omega) (by omega), hg, hrd]
    simp only [if_pos (show (a.length : Int) < (p.length : Int) by omega), if_pos (show (0 : Int) ≤ (a.length : Int) by omega), if_pos (show (a.length : Int) < ((preL a 0).length : Int) by omega), if_pos (show (a.length : Int) ≤ (a.length : Int) + 1 by omega), if_pos (show (a.length : Int) + 1 ≤ (p.length : Int) by omega)]
    refine Ev.bind hr ?_
    simp only [if_pos (show (preL a 0).length < 17592186044416 by omega), readsP, Int.add_zero]
    rw [w64' (by omega) (by omega)]
    have ih := sSeen0 row sr sl hsl p hp ho hsr hsr2 R hR b (a ++ [t]) (by rw [hab]; simp)
    rw [preL_snoc, Int.zero_add] at ih
    simpa using ih
theorem sSeenTurn (p : List (List S85)) (hp : Mid p) (sr sl row : List Int) (h4 : sr.length ≤ 1048576) (h5 : sl.length ≤ 1048576) (hr : row.length ≤ 1048576) : Ev (fun k => spec_TurnSeen.f k p sr sl row) (seenT p sr sl row) := by
  unfold spec_TurnSeen.f seenT
  refine Ev.bind (sSeenOk p hp sr sl h4 h5) ?_
  cases ho : okS p sr sl
  · simp only [Bool.false_eq_true, if_false, false_and]
    refine Ev.succ ?_
    simp only [spec_TurnSeen.j0, if_true]
    exact Ev.const
  obtain ⟨o1, o2, o3⟩ := okS_parts ho
  have h3 := okP_len o1
  have hs := hp.short h3
  simp only [if_true, true_and]
  refine Ev.bind (sRow row hr p.length (by omega)) ?_
  cases hb : rowB row p.length
  · simp only [Bool.not_false, Bool.false_eq_true, if_false]
    refine Ev.succ ?_
    simp only [spec_TurnSeen.j0, if_true]
    exact Ev.const
  · simp only [Bool.not_true, if_true]
    refine Ev.succ ?_
    simp only [spec_TurnSeen.j0, Bool.false_eq_true, if_false]
    have hrl := row_len hb
    have h1 := sSeen1 p sr sl row o2 h4 (by omega) (by omega) (row_in h3 hb) row.length [] (Nat.le_refl _) (by simp; omega)
    rw [Nat.sub_self] at h1
    exact sSeen0 row sr sl (by omega) p hs (okP_one o1) o2 h4 (turnR p sr row, sl, true) (by unfold turnR; simpa using h1) p [] rfl
end Go.Proofs.Ytefkbmhkhpekjaa.Pure

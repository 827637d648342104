/- What the exact laws do to a program: its size, its copy, that it is the same as itself, its marks. Plain Lean over the printed functions. No condition but the sizes. -/
import Derived.Test.YtefkbmhkhpekjaaPBx32
import Derived.Test.YtefkbmhkhpekjaaJFnExactTurnSeenx0
import Derived.Test.YtefkbmhkhpekjaaJFnExactTurnSeenx4
import Derived.Test.YtefkbmhkhpekjaaPBx80
import Derived.Test.YtefkbmhkhpekjaaJFnExactTurnSeenyOkProg
namespace Go.Proofs.Ytefkbmhkhpekjaa.Pure
open Go.RowKit Go.Proofs.Ytefkbmhkhpekjaa.PB Go.Proofs.YtefkbmhkhpekjaaW.PrintWords Go.Proofs.YtefkbmhkhpekjaaW.PrintLast
set_option linter.unusedVariables false

theorem rd_L13_get {p : List (List S130)} {n : Nat} (h : n < p.length) : rd_L13 p (n : Int) = p[n] := by
  unfold rd_L13
  rw [Int.toNat_natCast, List.getD_eq_getElem?_getD, List.getElem?_eq_getElem h]
  rfl
theorem rd_T130_get {p : List S130} {n : Nat} (h : n < p.length) : rd_T130 p (n : Int) = p[n] := by
  unfold rd_T130
  rw [Int.toNat_natCast, List.getD_eq_getElem?_getD, List.getElem?_eq_getElem h]
  rfl
theorem mid_get {α : Type} {a b : List α} {x : α} : (a ++ x :: b)[a.length]'(by simp) = x := by simp
/-- The size that the laws count. -/
theorem szL (l : List (List S130)) (hl : l.length ≤ 1048576) (ht : ∀ t ∈ l, t.length ≤ 9223372036854775807) : ∀ (m : Nat) (x : Int), m ≤ l.length → 0 ≤ x → x ≤ 1048576 →
    ∃ left, Ev (fun k => laws_szDoSS.l0 k l x ((l.length - m : Nat) : Int)) left ∧ left ≤ x ∧ (left < 0 ∨ ∀ t ∈ l.drop (l.length - m), t.length ≤ 1048576)
  | 0, x, _, h0, h1 => by
    refine ⟨x, Ev.succ (Ev.now fun k => ?_), Int.le_refl _, .inr (by simp)⟩
    simp only [laws_szDoSS.l0, Nat.sub_zero, Int.lt_irrefl, if_false]
  | m + 1, x, hm, h0, h1 => by
    have hlt : l.length - (m + 1) < l.length := by omega
    have hd : l.drop (l.length - (m + 1)) = l[l.length - (m + 1)] :: l.drop (l.length - m) := by
      rw [List.drop_eq_getElem_cons hlt, show l.length - (m + 1) + 1 = l.length - m by omega]
    have hs := ht _ (List.getElem_mem hlt)
    rw [hd]
    have e : ∀ k, laws_szDoSS.l0 (k + 1) l x ((l.length - (m + 1) : Nat) : Int) = if x - (l[l.length - (m + 1)].length : Int) < 0 then some (-1) else laws_szDoSS.l0 k l (x - (l[l.length - (m + 1)].length : Int)) ((l.length - m : Nat) : Int) := by
      intro k
      simp only [laws_szDoSS.l0, laws_szDoS.f, rd_L13_get hlt]
      rw [if_pos (show ((l.length - (m + 1) : Nat) : Int) < (l.length : Int) by omega), if_pos (show (0 : Int) ≤ ((l.length - (m + 1) : Nat) : Int) by omega), w64' (x := x - _) (by omega) (by omega), w64' (by omega) (by omega), show ((l.length - (m + 1) : Nat) : Int) + 1 = ((l.length - m : Nat) : Int) by omega]
      by_cases h : x - (l[l.length - (m + 1)].length : Int) < 0
      · rw [if_pos h, if_pos h]; rfl
      · rw [if_neg h, Option.bind_some, if_neg h]
    by_cases h : x - (l[l.length - (m + 1)].length : Int) < 0
    · refine ⟨-1, Ev.succ (Ev.now fun k => ?_), by omega, .inl (by omega)⟩
      rw [e, if_pos h]
    · obtain ⟨left, hev, hle, hr⟩ := szL l hl ht m (x - (l[l.length - (m + 1)].length : Int)) (by omega) (by omega) (by omega)
      refine ⟨left, Ev.succ (Ev.congr hev fun k => by rw [e, if_neg h]), by omega, hr.imp id fun hr t hm => ?_⟩
      rcases List.mem_cons.1 hm with rfl | hm
      · omega
      · exact hr t hm
theorem szProg_at (a : Int) (a0 : 0 ≤ a) (a1 : a ≤ 1048576) (l : List (List S130)) (hl : l.length ≤ 9223372036854775807) (ht : ∀ t ∈ l, t.length ≤ 9223372036854775807) :
    ∃ left, Ev (fun k => laws_szProg.f k l a) left ∧ left ≤ 1048576 ∧ (left < 0 ∨ l.length ≤ 1048576 ∧ ∀ t ∈ l, t.length ≤ 1048576) := by
  have key : ∃ left, Ev (fun k => laws_szDoSS.f k l a) left ∧ left ≤ 1048576 ∧ (left < 0 ∨ l.length ≤ 1048576 ∧ ∀ t ∈ l, t.length ≤ 1048576) := by
    unfold laws_szDoSS.f
    rw [w64' (by omega) (by omega)]
    by_cases h : a - (l.length : Int) < 0
    · simp only [if_pos h]
      exact ⟨-1, Ev.const, by omega, .inl (by omega)⟩
    · simp only [if_neg h]
      obtain ⟨left, hev, hle, hr⟩ := szL l (by omega) ht l.length (a - (l.length : Int)) (Nat.le_refl _) (by omega) (by omega)
      rw [Nat.sub_self] at hev hr
      exact ⟨left, hev, by omega, hr.imp id fun h => ⟨by omega, h⟩⟩
  obtain ⟨left, hev, hle, hr⟩ := key
  by_cases h : left < 0
  · exact ⟨-1, Ev.bind hev (by simp only [if_pos h]; exact Ev.const), by omega, .inl (by omega)⟩
  · exact ⟨left, Ev.bind hev (by simp only [if_neg h]; exact Ev.const), hle, hr⟩
/-- A step of the law's own type, as one of the program's. -/
def cv (d : S130) : S85 := ⟨d.f0, d.f1, d.f2⟩
def cvP (l : List (List S130)) : List (List S85) := l.map (List.map cv)
theorem toDoSL : ∀ (b a : List S130) (a' : List S85), a'.length = a.length → a.length + b.length ≤ 2000000 →
    Ev (fun k => laws_toDoS.l0 k (a ++ b) (a' ++ List.replicate b.length z85) (a.length : Int)) (a' ++ b.map cv)
  | [], a, a', h, hl => by
    refine Ev.succ (Ev.now fun k => ?_)
    simp [laws_toDoS.l0]
  | d :: b, a, a', h, hl => by
    rw [List.length_cons] at hl
    refine Ev.succ (Ev.congr ((toDoSL b (a ++ [d]) (a' ++ [cv d]) (by simp [h]) (by simp; omega)).of (by simp)) fun k => ?_)
    have hlt : a.length < (a ++ d :: b).length := by simp
    simp only [laws_toDoS.l0, rd_T130_get hlt, mid_get, laws_toDo.f, Option.bind_some]
    rw [if_pos (by simp; omega), if_pos (by omega), if_pos (by simp [h]; omega), w64' (by omega) (by omega)]
    rw [Int.toNat_natCast, List.length_cons, List.replicate_succ, List.set_append_right (h := by omega), show a.length - a'.length = 0 by omega, List.set_cons_zero]
    simp [cv]
theorem toDoS_ev (t : List S130) (h : t.length ≤ 1048576) : Ev (fun k => laws_toDoS.f k t) (t.map cv) := by
  unfold laws_toDoS.f
  simp only [if_pos (show (0 : Int) ≤ (t.length : Int) by omega), Int.toNat_natCast, if_pos (show t.length ≤ 11728124029610 by omega)]
  exact toDoSL t [] [] rfl (by simp; omega)
theorem toDoSSL : ∀ (b a : List (List S130)) (a' : List (List S85)), a'.length = a.length → a.length + b.length ≤ 2000000 → (∀ t ∈ b, t.length ≤ 1048576) →
    Ev (fun k => laws_toDoSS.l0 k (a ++ b) (a' ++ List.replicate b.length []) (a.length : Int)) (a' ++ cvP b)
  | [], a, a', h, hl, ht => by
    refine Ev.succ (Ev.now fun k => ?_)
    simp [laws_toDoSS.l0, cvP]
  | d :: b, a, a', h, hl, ht => by
    rw [List.length_cons] at hl
    have hlt : a.length < (a ++ d :: b).length := by simp
    refine Ev.succ ?_
    simp only [laws_toDoSS.l0, rd_L13_get hlt, mid_get]
    simp only [if_pos (show ((a.length : Nat) : Int) < ((a ++ d :: b).length : Int) by simp; omega), if_pos (show (0 : Int) ≤ (a.length : Int) by omega)]
    refine Ev.bind (toDoS_ev d (ht d (by simp))) ?_
    have e : ((a' ++ List.replicate (d :: b).length ([] : List S85)).set (a.length : Int).toNat (d.map cv)) = (a' ++ [d.map cv]) ++ List.replicate b.length [] := by
      rw [Int.toNat_natCast, List.length_cons, List.replicate_succ, List.set_append_right (h := by omega), show a.length - a'.length = 0 by omega, List.set_cons_zero]
      simp
    rw [e]
    simp only [if_pos (show ((a.length : Nat) : Int) < ((a' ++ List.replicate (d :: b).length ([] : List S85)).length : Int) by simp [h]; omega)]
    rw [w64' (by omega) (by omega)]
    exact (Ev.congr (toDoSSL b (a ++ [d]) (a' ++ [d.map cv]) (by simp [h]) (by simp; omega) (fun t hm => ht t (by simp [hm]))) (fun k => by simp)).of (by simp [cvP])
theorem toProg_ev (l : List (List S130)) (hl : l.length ≤ 1048576) (ht : ∀ t ∈ l, t.length ≤ 1048576) : Ev (fun k => laws_toProg.f k l) (cvP l) := by
  refine Ev.bind ?_ Ev.const
  unfold laws_toDoSS.f
  simp only [if_pos (show (0 : Int) ≤ (l.length : Int) by omega), Int.toNat_natCast, if_pos (show l.length ≤ 11728124029610 by omega)]
  exact toDoSSL l [] [] rfl (by simp; omega) ht
/-- No more than 2^20 of each. -/
def Mid (p : List (List S85)) : Prop := p.length ≤ 1048576 ∧ ∀ t ∈ p, t.length ≤ 1048576
theorem cvP_mid {l : List (List S130)} (hl : l.length ≤ 1048576) (ht : ∀ t ∈ l, t.length ≤ 1048576) : Mid (cvP l) := by
  refine ⟨by simp [cvP]; omega, fun t hm => ?_⟩
  obtain ⟨u, hu, rfl⟩ := List.mem_map.1 hm
  have := ht u hu
  simp; omega
theorem Mid.short {p : List (List S85)} (h : Mid p) (h3 : p.length ≤ 3) : Short p := ⟨by omega, h.2⟩
theorem iProgM (p : List (List S85)) (hp : Mid p) : Ev (fun k => impl_ProgOk.f k p) (okP p) := by
  by_cases h : p.length ≤ 3
  · exact iProg p (hp.short h)
  · unfold impl_ProgOk.f okP
    simp only [if_pos (show (p.length : Int) > 3 by omega)]
    exact Ev.const.of (by rw [decide_eq_false h]; rfl)
theorem sProgM (p : List (List S85)) (hp : Mid p) : Ev (fun k => spec_ProgOk.f k p) (okP p) := by
  by_cases h : p.length ≤ 3
  · exact sProg p (hp.short h)
  · unfold spec_ProgOk.f okP
    simp only [if_pos (show (p.length : Int) > 3 by omega)]
    exact Ev.const.of (by rw [decide_eq_false h]; rfl)
theorem eqDoSL (t : List S85) (ht : t.length ≤ 2000000) : ∀ m : Nat, m ≤ t.length → Ev (fun k => laws_eqDoS.l0 k t t ((t.length - m : Nat) : Int)) true
  | 0, _ => by
    refine Ev.succ (Ev.now fun k => ?_)
    simp [laws_eqDoS.l0]
  | m + 1, hm => by
    refine Ev.succ (Ev.congr (eqDoSL t ht m (by omega)) fun k => ?_)
    simp only [laws_eqDoS.l0, laws_eqDo.f, if_true, Option.bind_some]
    rw [if_pos (by omega), if_pos (by omega), w64' (by omega) (by omega), show ((t.length - (m + 1) : Nat) : Int) + 1 = ((t.length - m : Nat) : Int) by omega, if_pos (by omega)]
theorem eqDoSSL (p : List (List S85)) (hp : Mid p) : ∀ m : Nat, m ≤ p.length → Ev (fun k => laws_eqDoSS.l0 k p p ((p.length - m : Nat) : Int)) true
  | 0, _ => by
    refine Ev.succ (Ev.now fun k => ?_)
    simp [laws_eqDoSS.l0]
  | m + 1, hm => by
    have hlt : p.length - (m + 1) < p.length := by omega
    have hh := hp.1
    refine Ev.succ ?_
    simp only [laws_eqDoSS.l0, rd_L7_get hlt]
    simp only [if_pos (show ((p.length - (m + 1) : Nat) : Int) < (p.length : Int) by omega), if_pos (show (0 : Int) ≤ ((p.length - (m + 1) : Nat) : Int) by omega)]
    have h1 : Ev (fun k => laws_eqDoS.f k p[p.length - (m + 1)] p[p.length - (m + 1)]) true := by
      unfold laws_eqDoS.f
      simp only [if_true]
      have := eqDoSL _ (Nat.le_trans (hp.2 _ (List.getElem_mem hlt)) (by omega)) _ (Nat.le_refl _)
      rw [Nat.sub_self] at this
      exact this
    refine Ev.bind h1 ?_
    simp only [if_true]
    rw [w64' (by omega) (by omega), show ((p.length - (m + 1) : Nat) : Int) + 1 = ((p.length - m : Nat) : Int) by omega]
    exact eqDoSSL p hp m (by omega)
theorem eqSelf (p : List (List S85)) (hp : Mid p) : Ev (fun k => laws_eqProg.f k p p) true := by
  unfold laws_eqProg.f laws_eqDoSS.f
  simp only [if_true]
  have := eqDoSSL p hp _ (Nat.le_refl _)
  rw [Nat.sub_self] at this
  exact Ev.bind this (by simp only [if_true]; exact Ev.const)
/-- A row, marked from n on. -/
def markR : List S85 → Int → List S85
  | [], _ => []
  | _ :: l, n => ⟨n, n + 1, n + 2⟩ :: markR l (n + 3)
def markP : List (List S85) → Int → List (List S85)
  | [], _ => []
  | t :: p, n => markR t n :: markP p (n + 3 * (t.length : Int))
def sizeP : List (List S85) → Int
  | [] => 0
  | t :: p => (t.length : Int) + sizeP p
theorem sizeP_le : ∀ (p : List (List S85)) (c : Int), (∀ t ∈ p, (t.length : Int) ≤ c) → 0 ≤ sizeP p ∧ sizeP p ≤ c * (p.length : Int)
  | [], c, _ => by simp [sizeP]
  | t :: p, c, h => by
    have := sizeP_le p c (fun t ht => h t (by simp [ht]))
    have h1 := h t (by simp)
    simp only [sizeP, List.length_cons, Int.natCast_add, Int.mul_add, Int.natCast_one, Int.mul_one]
    omega
theorem sizeP_mid {p : List (List S85)} (hp : Mid p) : 0 ≤ sizeP p ∧ sizeP p ≤ 4000000000000 := by
  have h := sizeP_le p 2000000 (fun t ht => by have := hp.2 t ht; omega)
  have := hp.1
  omega
theorem set_mid' {α : Type} (a b : List α) (x y : α) : (a ++ x :: b).set a.length y = a ++ y :: b := by simp
theorem markDoSL : ∀ (b a : List S85) (n : Int), a.length + b.length ≤ 2000000 → 0 ≤ n → n + 3 * (b.length : Int) ≤ 100000000000000 →
    Ev (fun k => laws_markDoS.l0 k (a ++ b) n (a.length : Int)) (n + 3 * (b.length : Int), a ++ markR b n)
  | [], a, n, h, h0, h1 => by
    refine Ev.succ (Ev.now fun k => ?_)
    simp [laws_markDoS.l0, markR]
  | d :: b, a, n, h, h0, h1 => by
    rw [List.length_cons] at h h1
    refine Ev.succ (Ev.congr ((markDoSL b (a ++ [⟨n, n + 1, n + 2⟩]) (n + 3) (by simp; omega) (by omega) (by omega)).of (by simp [markR]; omega)) fun k => ?_)
    simp only [laws_markDoS.l0, Option.bind_some, Int.toNat_natCast, set_mid']
    rw [if_pos (by simp; omega), if_pos (by omega)]
    rw [rd_T85_get (show a.length < (a ++ d :: b).length by simp)]
    simp only [mid_get]
    rw [rd_T85_get (show a.length < (a ++ (⟨n, d.f1, d.f2⟩ : S85) :: b).length by simp)]
    simp only [mid_get]
    rw [w64' (x := n + 1) (by omega) (by omega)]
    rw [rd_T85_get (show a.length < (a ++ (⟨n, n + 1, d.f2⟩ : S85) :: b).length by simp)]
    simp only [mid_get]
    rw [w64' (x := n + 1 + 1) (by omega) (by omega), w64' (x := n + 1 + 1 + 1) (by omega) (by omega), w64' (x := (a.length : Int) + 1) (by omega) (by omega), show n + 1 + 1 + 1 = n + 3 by omega, show n + 1 + 1 = n + 2 by omega]
    simp
theorem markDoS_ev (t : List S85) (n : Int) (ht : t.length ≤ 2000000) (h0 : 0 ≤ n) (h1 : n + 3 * (t.length : Int) ≤ 100000000000000) : Ev (fun k => laws_markDoS.f k t n) (n + 3 * (t.length : Int), markR t n) :=
  markDoSL t [] n (by simp; omega) h0 h1
theorem markDoSSL : ∀ (b a : List (List S85)) (n : Int), a.length + b.length ≤ 2000000 → (∀ t ∈ b, t.length ≤ 2000000) → 0 ≤ n → n + 3 * sizeP b ≤ 100000000000000 →
    Ev (fun k => laws_markDoSS.l0 k (a ++ b) n (a.length : Int)) (n + 3 * sizeP b, a ++ markP b n)
  | [], a, n, h, ht, h0, h1 => by
    refine Ev.succ (Ev.now fun k => ?_)
    simp [laws_markDoSS.l0, markP, sizeP]
  | t :: b, a, n, h, ht, h0, h1 => by
    rw [List.length_cons] at h
    have hz := (sizeP_le b 2000000 (fun t hm => by have := ht t (by simp [hm]); omega)).1
    simp only [sizeP] at h1
    refine Ev.succ ?_
    simp only [laws_markDoSS.l0]
    simp only [if_pos (show ((a.length : Nat) : Int) < ((a ++ t :: b).length : Int) by simp; omega), Int.toNat_natCast, show (a ++ t :: b).getD a.length [] = t by simp]
    refine Ev.bind (markDoS_ev t n (ht t (by simp)) h0 (by omega)) ?_
    rw [w64' (by omega) (by omega)]
    simp only [set_mid']
    exact (Ev.congr (markDoSSL b (a ++ [markR t n]) (n + 3 * (t.length : Int)) (by simp; omega) (fun u hm => ht u (by simp [hm])) (by omega) (by omega)) (fun k => by simp)).of (by simp [markP, sizeP]; omega)
theorem markProg_ev (p : List (List S85)) (hp : Mid p) : Ev (fun k => laws_markDoSS.f k p 1) (1 + 3 * sizeP p, markP p 1) := by
  have h := sizeP_mid hp
  exact markDoSSL p [] 1 (by have := hp.1; simp; omega) (fun t ht => by have := hp.2 t ht; omega) (by omega) (by omega)
end Go.Proofs.Ytefkbmhkhpekjaa.Pure

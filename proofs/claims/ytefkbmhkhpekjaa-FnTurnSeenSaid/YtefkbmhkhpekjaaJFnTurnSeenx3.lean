-- Joined by wip/mclaim.py out of YtefkbmhkhpekjaaOkProg, YtefkbmhkhpekjaaDrawThread
import Derived.Test.YtefkbmhkhpekjaaJFnTurnSeenx6
import Derived.Test.YtefkbmhkhpekjaaPBx31
import Derived.Test.YtefkbmhkhpekjaaJFnTurnSeenx4
namespace Go.Proofs.Ytefkbmhkhpekjaa.Pure
open Go.RowKit Go.Proofs.Ytefkbmhkhpekjaa.PB Go.Proofs.YtefkbmhkhpekjaaW.PrintWords Go.Proofs.YtefkbmhkhpekjaaW.PrintLast
set_option linter.unusedVariables false

/-- From some k on. -/
def Ev {α : Type} (F : Nat → Option α) (r : α) : Prop := ∃ K, ∀ k, K ≤ k → F k = some r
theorem Ev.now {α : Type} {F : Nat → Option α} {r : α} (h : ∀ k, F k = some r) : Ev F r := ⟨0, fun k _ => h k⟩
theorem Ev.const {α : Type} {r : α} : Ev (fun _ => some r) r := ⟨0, fun _ _ => rfl⟩
theorem Ev.bind {α β : Type} {F : Nat → Option α} {G : Nat → α → Option β} {a : α} {b : β} (h : Ev F a) (g : Ev (fun k => G k a) b) : Ev (fun k => (F k).bind (G k)) b := by
  obtain ⟨K, h⟩ := h
  obtain ⟨L, g⟩ := g
  exact ⟨max K L, fun k hk => by show (F k).bind (G k) = some b; rw [h k (by omega), Option.bind_some]; exact g k (by omega)⟩
theorem Ev.succ {α : Type} {F : Nat → Option α} {r : α} (h : Ev (fun k => F (k + 1)) r) : Ev F r := by
  obtain ⟨K, h⟩ := h
  refine ⟨K + 1, fun k hk => ?_⟩
  obtain ⟨j, rfl⟩ : ∃ j, k = j + 1 := ⟨k - 1, by omega⟩
  exact h j (by omega)
theorem Ev.of {α : Type} {F : Nat → Option α} {r s : α} (h : Ev F r) (e : r = s) : Ev F s := e ▸ h
theorem Ev.congr {α : Type} {F G : Nat → Option α} {r : α} (h : Ev G r) (e : ∀ k, F k = G k) : Ev F r := by
  obtain ⟨K, h⟩ := h
  exact ⟨K, fun k hk => (e k).trans (h k hk)⟩
theorem Ev.mono {α : Type} {F : Nat → Option α} {r : α} {k : Nat} (hm : ∀ k, LeO (F k) (F (k + 1))) (h : F k = some r) : Ev F r := by
  refine ⟨k, fun j hj => ?_⟩
  obtain ⟨d, rfl⟩ : ∃ d, j = k + d := ⟨j - k, by omega⟩
  clear hj
  induction d with
  | zero => exact h
  | succ d ih => exact hm _ _ ih
theorem w64' {x : Int} (h0 : -9223372036854775808 ≤ x) (h1 : x < 9223372036854775808) : wrap64 x = x := by unfold wrap64; omega
def rdB (x : Int) : Bool := x == 2 || x == 5
def wrB (x : Int) : Bool := x == 1 || (x == 3 || x == 6)
def usB (x : Int) : Bool := rdB x || wrB x
def vaB (x : Int) : Bool := x == 1 || x == 6
def inR (x a b : Int) : Bool := decide (a ≤ x) && decide (x ≤ b)
def doB (a b c : Int) : Bool := inR a 1 9 && (if usB a then inR b 0 2 else b == 0) && (if vaB a then inR c 1 3 else c == 0)
def wrongB (a : Int) (r i : Bool) : Bool := (a == 3 && !r) || (i && (a == 7 || a == 9)) || (!i && a == 8)
def inB (a : Int) (i : Bool) : Bool := a == 7 || (i && a != 8)
def thB : List S85 → Bool → Bool → Bool
  | [], _, i => !i
  | d :: l, r, i => doB d.f0 d.f1 d.f2 && !wrongB d.f0 r i && thB l (r || rdB d.f0) (inB d.f0 i)
def threadB (l : List S85) : Bool := decide (l.length ≤ 7) && thB l false false
def usesI : List S85 → Int
  | [] => 0
  | d :: l => (if usB d.f0 then 1 else 0) + usesI l
def okL : List (List S85) → Int → Int → Bool
  | [], n, u => decide (n ≤ 14) && decide (u ≤ 6)
  | t :: l, n, u => threadB t && okL l (n + t.length) (u + usesI t)
def okP (p : List (List S85)) : Bool := decide (p.length ≤ 3) && okL p 0 0
theorem sReads (a b c : Int) : spec_l1Reads.f a b c = some (rdB a) := by
  unfold spec_l1Reads.f rdB; split <;> simp_all
theorem sWrites (a b c : Int) : spec_l1Writes.f a b c = some (wrB a) := by
  unfold spec_l1Writes.f wrB
  by_cases h1 : a = 1
  · simp [h1]
  have e1 : (a == 1) = false := by simpa using h1
  by_cases h3 : a = 3
  · simp [h3]
  have e3 : (a == 3) = false := by simpa using h3
  simp [h1, h3, e1, e3]
theorem iReads (a b c : Int) : impl_Do_reads.f a b c = some (rdB a) := by
  unfold impl_Do_reads.f rdB; split <;> simp_all
theorem iWrites (a b c : Int) : impl_Do_writes.f a b c = some (wrB a) := by
  unfold impl_Do_writes.f wrB
  by_cases h1 : a = 1
  · simp [h1]
  have e1 : (a == 1) = false := by simpa using h1
  by_cases h3 : a = 3
  · simp [h3]
  have e3 : (a == 3) = false := by simpa using h3
  simp [h1, h3, e1, e3]
theorem iUses (a b c : Int) : impl_Do_uses.f a b c = some (usB a) := by
  unfold impl_Do_uses.f usB
  rw [iReads, Option.bind_some, iWrites, Option.bind_some]
  cases rdB a <;> simp
theorem iValued (a b c : Int) : impl_Do_valued.f a b c = some (vaB a) := by
  unfold impl_Do_valued.f vaB; split <;> simp_all
theorem sIn (x a b : Int) : spec_l6In.f x a b = some (inR x a b) := by
  unfold spec_l6In.f inR
  by_cases h : x ≥ a
  · have h' : a ≤ x := h
    simp [h']
  · have h' : ¬ a ≤ x := h
    simp [h']
theorem iIn (x a b : Int) : impl_in.f x a b = some (inR x a b) := by
  unfold impl_in.f inR
  by_cases h : x ≥ a
  · have h' : a ≤ x := h
    simp [h']
  · have h' : ¬ a ≤ x := h
    simp [h']
theorem sDo (a b c : Int) : Ev (fun k => spec_l1Do.f k a b c) (doB a b c) := by
  have key : ∀ (v : Bool), v = vaB a → Ev (fun k => spec_l1Do.j0 k v a b c) (doB a b c) := by
    intro v hv
    refine Ev.succ (Ev.now fun k => ?_)
    simp only [spec_l1Do.j0, sReads, sWrites, sIn, Option.bind_some, doB, usB]
    rw [← hv]
    obtain h1 | h1 := Bool.eq_false_or_eq_true (rdB a) <;> obtain h2 | h2 := Bool.eq_false_or_eq_true (wrB a) <;> obtain h3 | h3 := Bool.eq_false_or_eq_true (inR a 1 9) <;> obtain h4 | h4 := Bool.eq_false_or_eq_true (inR b 0 2) <;> obtain h5 | h5 := Bool.eq_false_or_eq_true v <;> obtain h6 | h6 := Bool.eq_false_or_eq_true (inR c 1 3) <;> by_cases h7 : b = 0 <;> first | (subst h7; simp [h1, h2, h3, h4, h5, h6]; done) | (simp [h1, h2, h3, h4, h5, h6, h7]; done)
  unfold spec_l1Do.f
  by_cases h : a = 1
  · simp only [if_pos h]
    exact key true (by simp [vaB, h])
  · simp only [if_neg h]
    exact key (a == 6) (by simp [vaB, h])
theorem iDo (a b c : Int) : Ev (fun k => impl_Do_formed.f k a b c) (doB a b c) := by
  have key : ∀ (v : Bool), (inR a 1 9 && v && (if vaB a then inR c 1 3 else c == 0)) = doB a b c → Ev (fun k => impl_Do_formed.j0 k v a b c) (doB a b c) := by
    intro v hv
    refine Ev.succ (Ev.now fun k => ?_)
    rw [← hv]
    simp only [impl_Do_formed.j0, iValued, iIn, Option.bind_some]
    obtain h1 | h1 := Bool.eq_false_or_eq_true (vaB a) <;> obtain h2 | h2 := Bool.eq_false_or_eq_true (inR a 1 9) <;> obtain h3 | h3 := Bool.eq_false_or_eq_true v <;> simp [h1, h2, h3]
  unfold impl_Do_formed.f
  by_cases h : b = 0
  · simp only [if_pos h]
    refine key true ?_
    subst h
    simp [doB, inR]
  · simp only [if_neg h, iUses, Option.bind_some]
    cases hu : usB a
    · simp only [Bool.false_eq_true, if_false]
      refine key false ?_
      simp [doB, hu, h]
    · simp only [if_true, iIn, Option.bind_some]
      refine key _ ?_
      simp [doB, hu]
theorem sWrong (k : Nat) (x : List S85) (r i : Bool) (n : Int) (h : n < x.length) (h0 : 0 ≤ n) : spec_l1Thread.l0 (k + 1) x r i n =
    (spec_l1Do.f k (rd_T85 x n).f0 (rd_T85 x n).f1 (rd_T85 x n).f2).bind fun t => spec_l1Thread.j1 k x r i n (!t || wrongB (rd_T85 x n).f0 r i) (rd_T85 x n).f0 (rd_T85 x n).f1 (rd_T85 x n).f2 := by
  simp only [spec_l1Thread.l0]
  rw [if_pos h, if_pos h0]
  congr 1
  funext t
  generalize rd_T85 x n = d
  cases t
  · rfl
  · simp only [if_true, wrongB, Bool.not_true, Bool.false_or]
    by_cases h3 : d.f0 = 3
    · rw [h3]; cases r <;> cases i <;> rfl
    by_cases h7 : d.f0 = 7
    · rw [h7]; cases r <;> cases i <;> rfl
    by_cases h8 : d.f0 = 8
    · rw [h8]; cases r <;> cases i <;> rfl
    by_cases h9 : d.f0 = 9
    · rw [h9]; cases r <;> cases i <;> rfl
    simp only [if_neg h3, if_neg h7, if_neg h8, if_neg h9]
    rw [show (d.f0 == 3) = false by simpa using h3, show (d.f0 == 7) = false by simpa using h7, show (d.f0 == 8) = false by simpa using h8, show (d.f0 == 9) = false by simpa using h9]
    cases r <;> cases i <;> rfl
theorem sLoop (x : List S85) (hx : x.length ≤ 1048576) : ∀ (m : Nat) (r i : Bool), m ≤ x.length → Ev (fun k => spec_l1Thread.l0 k x r i ((x.length - m : Nat) : Int)) (thB (x.drop (x.length - m)) r i)
  | 0, r, i, _ => by
    refine Ev.succ (Ev.now fun k => ?_)
    simp only [spec_l1Thread.l0]
    rw [if_neg (by omega)]
    simp [thB]
  | m + 1, r, i, hm => by
    have hlt : x.length - (m + 1) < x.length := by omega
    have hd : x.drop (x.length - (m + 1)) = x[x.length - (m + 1)] :: x.drop (x.length - m) := by
      rw [List.drop_eq_getElem_cons hlt, show x.length - (m + 1) + 1 = x.length - m by omega]
    have hr : rd_T85 x ((x.length - (m + 1) : Nat) : Int) = x[x.length - (m + 1)] := by
      unfold rd_T85
      rw [Int.toNat_natCast, List.getD_eq_getElem?_getD, List.getElem?_eq_getElem hlt]
      rfl
    have hw : wrap64 (((x.length - (m + 1) : Nat) : Int) + 1) = ((x.length - m : Nat) : Int) := by rw [w64' (by omega) (by omega)]; omega
    rw [hd]
    generalize x[x.length - (m + 1)] = d at *
    refine Ev.succ (Ev.congr (G := fun k => (spec_l1Do.f k d.f0 d.f1 d.f2).bind fun t => spec_l1Thread.j1 k x r i ((x.length - (m + 1) : Nat) : Int) (!t || wrongB d.f0 r i) d.f0 d.f1 d.f2) ?_ (fun k => by rw [sWrong k x r i _ (by omega) (by omega), hr]))
    refine Ev.bind (sDo _ _ _) (Ev.succ ?_)
    simp only [spec_l1Thread.j1]
    simp only [thB]
    cases hb : doB d.f0 d.f1 d.f2 && !wrongB d.f0 r i
    · rw [show (!doB d.f0 d.f1 d.f2 || wrongB d.f0 r i) = true by revert hb; cases doB d.f0 d.f1 d.f2 <;> cases wrongB d.f0 r i <;> simp]
      exact Ev.const
    · rw [show (!doB d.f0 d.f1 d.f2 || wrongB d.f0 r i) = false by revert hb; cases doB d.f0 d.f1 d.f2 <;> cases wrongB d.f0 r i <;> simp]
      simp only [Bool.false_eq_true, if_false, Bool.true_and]
      have key : Ev (fun k => spec_l1Thread.j2 k x (r || rdB d.f0) i ((x.length - (m + 1) : Nat) : Int) d.f0 d.f1 d.f2) (thB (x.drop (x.length - m)) (r || rdB d.f0) (inB d.f0 i)) := by
        refine Ev.succ ?_
        simp only [spec_l1Thread.j2, hw]
        by_cases h7 : d.f0 = 7
        · simp only [if_pos h7]
          exact (sLoop x hx m _ _ (by omega)).of (by rw [show inB d.f0 i = true by simp [inB, h7]])
        · simp only [if_neg h7]
          by_cases h8 : d.f0 = 8
          · simp only [if_pos h8]
            exact (sLoop x hx m _ _ (by omega)).of (by rw [show inB d.f0 i = false by simp [inB, h8]])
          · simp only [if_neg h8]
            exact (sLoop x hx m _ _ (by omega)).of (by rw [show inB d.f0 i = i by unfold inB; rw [show (d.f0 == 7) = false by simpa using h7, show (d.f0 != 8) = true by simpa using h8]; cases i <;> rfl])
      cases r
      · simp only [Bool.false_eq_true, if_false, sReads, Option.bind_some]
        exact key
      · simp only [if_true]
        exact key
theorem sThread (x : List S85) (hx : x.length ≤ 1048576) : Ev (fun k => spec_l1Thread.f k x) (threadB x) := by
  unfold spec_l1Thread.f threadB
  by_cases h : (x.length : Int) > 7
  · simp only [if_pos h]
    exact Ev.const.of (by rw [decide_eq_false (by omega)]; rfl)
  · simp only [if_neg h]
    have := sLoop x hx x.length false false (Nat.le_refl _)
    rw [Nat.sub_self] at this
    exact this.of (by rw [decide_eq_true (by omega)]; simp)
theorem usesI_le : ∀ l : List S85, 0 ≤ usesI l ∧ usesI l ≤ l.length
  | [] => by simp [usesI]
  | d :: l => by
    have := usesI_le l
    simp only [usesI, List.length_cons]
    split <;> omega
theorem rd_L7_get {p : List (List S85)} {n : Nat} (h : n < p.length) : rd_L7 p (n : Int) = p[n] := by
  unfold rd_L7
  rw [Int.toNat_natCast, List.getD_eq_getElem?_getD, List.getElem?_eq_getElem h]
  rfl
theorem rd_T85_get {p : List S85} {n : Nat} (h : n < p.length) : rd_T85 p (n : Int) = p[n] := by
  unfold rd_T85
  rw [Int.toNat_natCast, List.getD_eq_getElem?_getD, List.getElem?_eq_getElem h]
  rfl
theorem sUses (p : List (List S85)) (x : Nat) (hx : x < p.length) (hl : p[x].length ≤ 1048576) (hp : p.length ≤ 1048576) (n : Int) (R : Bool) : ∀ (m : Nat) (u : Int), m ≤ p[x].length → 0 ≤ u → u + (m : Int) ≤ 1000000000000 →
    Ev (fun k => spec_ProgOk.l0 k n (u + usesI (p[x].drop (p[x].length - m))) ((x + 1 : Nat) : Int) p) R → Ev (fun k => spec_ProgOk.l1 k n u x ((p[x].length - m : Nat) : Int) p) R
  | 0, u, _, _, _, h => by
    refine Ev.succ ?_
    simp only [spec_ProgOk.l1, rd_L7_get hx]
    rw [Nat.sub_zero, List.drop_length] at h
    simp only [usesI, Int.add_zero] at h
    simp only [if_pos (show (0 : Int) ≤ (x : Int) by omega), if_pos (show (x : Int) < (p.length : Int) by omega), Nat.sub_zero, Int.lt_irrefl, if_false]
    rw [w64' (by omega) (by omega)]
    exact h
  | m + 1, u, hm, h0, h1, h => by
    have hlt : p[x].length - (m + 1) < p[x].length := by omega
    have hd : p[x].drop (p[x].length - (m + 1)) = p[x][p[x].length - (m + 1)] :: p[x].drop (p[x].length - m) := by
      rw [List.drop_eq_getElem_cons hlt, show p[x].length - (m + 1) + 1 = p[x].length - m by omega]
    rw [hd] at h
    simp only [usesI] at h
    refine Ev.succ ?_
    simp only [spec_ProgOk.l1, rd_L7_get hx, rd_T85_get hlt, sReads, sWrites, Option.bind_some]
    simp only [if_pos (show (0 : Int) ≤ (x : Int) by omega), if_pos (show (x : Int) < (p.length : Int) by omega), if_pos (show (((p[x].length - (m + 1) : Nat) : Int)) < (p[x].length : Int) by omega), if_pos (show (0 : Int) ≤ ((p[x].length - (m + 1) : Nat) : Int) by omega)]
    rw [w64' (x := ((p[x].length - (m + 1) : Nat) : Int) + 1) (by omega) (by omega), w64' (x := u + 1) (by omega) (by omega), show ((p[x].length - (m + 1) : Nat) : Int) + 1 = ((p[x].length - m : Nat) : Int) by omega]
    generalize p[x][p[x].length - (m + 1)] = d at *
    have hu := usesI_le (p[x].drop (p[x].length - m))
    by_cases c : usB d.f0 = true
    · rw [if_pos c] at h
      have ih := sUses p x hx hl hp n R m (u + 1) (by omega) (by omega) (by omega) (by rw [Int.add_assoc]; exact h)
      unfold usB at c
      cases hr : rdB d.f0
      · rw [hr, Bool.false_or] at c
        simp only [Bool.false_eq_true, if_false, c, if_true]
        exact ih
      · simp only [if_true]
        exact ih
    · rw [if_neg c] at h
      rw [Int.zero_add] at h
      have ih := sUses p x hx hl hp n R m u (by omega) h0 (by omega) h
      unfold usB at c
      cases hr : rdB d.f0
      · rw [hr, Bool.false_or] at c
        simp only [Bool.false_eq_true, if_false, c]
        exact ih
      · rw [hr] at c; simp at c
/-- No thread is longer than what a machine can hold. -/
def Short (p : List (List S85)) : Prop := p.length ≤ 1000 ∧ ∀ t ∈ p, t.length ≤ 1048576
theorem Short.at {p : List (List S85)} (h : Short p) {n : Nat} (hn : n < p.length) : p[n].length ≤ 1048576 := h.2 _ (List.getElem_mem hn)
theorem Short.rd {p : List (List S85)} (h : Short p) (i : Int) : (rd_L7 p i).length ≤ 1048576 := by
  unfold rd_L7
  rw [List.getD_eq_getElem?_getD]
  rcases e : p[i.toNat]? with _ | t
  · simp
  · exact h.2 t (List.mem_of_getElem? e)
theorem sProgL (p : List (List S85)) (hp : Short p) : ∀ (m : Nat) (n u : Int), m ≤ p.length → 0 ≤ n → 0 ≤ u → n + 1048576 * (m : Int) ≤ 100000000000 → u + 1048576 * (m : Int) ≤ 100000000000 →
    Ev (fun k => spec_ProgOk.l0 k n u ((p.length - m : Nat) : Int) p) (okL (p.drop (p.length - m)) n u)
  | 0, n, u, _, _, _, _, _ => by
    refine Ev.succ (Ev.now fun k => ?_)
    simp only [spec_ProgOk.l0, Nat.sub_zero, Int.lt_irrefl, if_false, List.drop_length, okL]
    by_cases h : n ≤ 14 <;> simp [h]
  | m + 1, n, u, hm, h0, h1, h2, h3 => by
    have hlt : p.length - (m + 1) < p.length := by omega
    have hd : p.drop (p.length - (m + 1)) = p[p.length - (m + 1)] :: p.drop (p.length - m) := by
      rw [List.drop_eq_getElem_cons hlt, show p.length - (m + 1) + 1 = p.length - m by omega]
    have hl := hp.at hlt
    rw [hd]
    refine Ev.succ ?_
    simp only [spec_ProgOk.l0, rd_L7_get hlt, okL]
    simp only [if_pos (show ((p.length - (m + 1) : Nat) : Int) < (p.length : Int) by omega), if_pos (show (0 : Int) ≤ ((p.length - (m + 1) : Nat) : Int) by omega)]
    refine Ev.bind (sThread _ hl) ?_
    cases hb : threadB p[p.length - (m + 1)]
    · simp only [Bool.false_eq_true, if_false, Bool.false_and]
      exact Ev.const
    · simp only [if_true, Bool.true_and]
      rw [w64' (by omega) (by omega)]
      have hu := usesI_le p[p.length - (m + 1)]
      have := sUses p (p.length - (m + 1)) hlt hl (by have := hp.1; omega) (n + (p[p.length - (m + 1)].length : Int)) (okL (p.drop (p.length - m)) (n + (p[p.length - (m + 1)].length : Int)) (u + usesI p[p.length - (m + 1)])) p[p.length - (m + 1)].length u (Nat.le_refl _) h1 (by omega) (by
        rw [Nat.sub_self, List.drop_zero, show p.length - (m + 1) + 1 = p.length - m by omega]
        exact sProgL p hp m _ _ (by omega) (by omega) (by omega) (by omega) (by omega))
      rw [Nat.sub_self] at this
      exact this
theorem sProg (p : List (List S85)) (hp : Short p) : Ev (fun k => spec_ProgOk.f k p) (okP p) := by
  unfold spec_ProgOk.f okP
  by_cases h : (p.length : Int) > 3
  · simp only [if_pos h]
    exact Ev.const.of (by rw [decide_eq_false (by omega)]; rfl)
  · simp only [if_neg h]
    have := sProgL p hp p.length 0 0 (Nat.le_refl _) (by omega) (by omega) (by omega) (by omega)
    rw [Nat.sub_self] at this
    exact this.of (by rw [decide_eq_true (by omega)]; simp)
theorem iWrong (k : Nat) (x y : List S85) (r i : Bool) (n l : Int) (h : n < l) (h0 : 0 ≤ n) (h1 : n < y.length) : impl_threadOk.l0 (k + 1) x r i y l n =
    impl_threadOk.j1 k x r i (wrongB (rd_T85 y n).f0 r i) y l n (rd_T85 y n).f0 (rd_T85 y n).f1 (rd_T85 y n).f2 := by
  simp only [impl_threadOk.l0]
  rw [if_pos h, if_pos h0, if_pos h1]
  generalize rd_T85 y n = d
  simp only [wrongB]
  by_cases h3 : d.f0 = 3
  · rw [h3]; cases r <;> cases i <;> rfl
  by_cases h7 : d.f0 = 7
  · rw [h7]; cases r <;> cases i <;> rfl
  by_cases h9 : d.f0 = 9
  · rw [h9]; cases r <;> cases i <;> rfl
  simp only [if_neg h3, if_neg h7, if_neg h9]
  rw [show (d.f0 == 3) = false by simpa using h3, show (d.f0 == 7) = false by simpa using h7, show (d.f0 == 9) = false by simpa using h9]
  cases r <;> cases i <;> simp
theorem iLoop (x : List S85) (hx : x.length ≤ 1048576) : ∀ (m : Nat) (r i : Bool), m ≤ x.length → Ev (fun k => impl_threadOk.l0 k x r i x (x.length : Int) ((x.length - m : Nat) : Int)) (decide (x.length ≤ 7) && thB (x.drop (x.length - m)) r i)
  | 0, r, i, _ => by
    refine Ev.succ (Ev.now fun k => ?_)
    simp only [impl_threadOk.l0]
    rw [if_neg (by omega)]
    simp only [Nat.sub_zero, List.drop_length, thB]
    cases i
    · simp; omega
    · simp
  | m + 1, r, i, hm => by
    have hlt : x.length - (m + 1) < x.length := by omega
    have hd : x.drop (x.length - (m + 1)) = x[x.length - (m + 1)] :: x.drop (x.length - m) := by
      rw [List.drop_eq_getElem_cons hlt, show x.length - (m + 1) + 1 = x.length - m by omega]
    have hr := rd_T85_get hlt
    have hw : wrap64 (((x.length - (m + 1) : Nat) : Int) + 1) = ((x.length - m : Nat) : Int) := by rw [w64' (by omega) (by omega)]; omega
    rw [hd]
    generalize x[x.length - (m + 1)] = d at *
    refine Ev.succ (Ev.congr (G := fun k => impl_threadOk.j1 k x r i (wrongB d.f0 r i) x (x.length : Int) ((x.length - (m + 1) : Nat) : Int) d.f0 d.f1 d.f2) ?_ (fun k => by rw [iWrong k x x r i _ _ (by omega) (by omega) (by omega), hr]))
    refine Ev.succ ?_
    simp only [impl_threadOk.j1]
    refine Ev.bind (iDo _ _ _) ?_
    simp only [thB]
    cases hb : doB d.f0 d.f1 d.f2
    · simp only [Bool.false_eq_true, if_false, Bool.false_and, Bool.and_false]
      exact Ev.const
    cases hc : wrongB d.f0 r i
    · simp only [Bool.false_eq_true, if_false, if_true, Bool.not_false, Bool.true_and, iReads, Option.bind_some, hw]
      have key := fun (r' i' : Bool) => iLoop x hx m r' i' (by omega)
      have hi : inB d.f0 i = if d.f0 = 7 then true else if i = true then (d.f0 != 8) else false := by
        unfold inB
        by_cases h7 : d.f0 = 7
        · simp [h7]
        · rw [if_neg h7, show (d.f0 == 7) = false by simpa using h7]; cases i <;> simp
      rw [hi]
      by_cases h7 : d.f0 = 7
      · simp only [if_pos h7]
        cases r
        · simp only [Bool.false_eq_true, if_false, Bool.false_or]; exact key _ _
        · simp only [if_true, Bool.true_or]; exact key _ _
      · simp only [if_neg h7]
        cases r <;> cases i <;> simp only [Bool.false_eq_true, if_false, if_true, Bool.false_or, Bool.true_or] <;> exact key _ _
    · simp only [if_true, Bool.not_true, Bool.false_and, Bool.and_false]
      exact Ev.const
theorem iThread (x : List S85) (hx : x.length ≤ 1048576) : Ev (fun k => impl_threadOk.f k x) (threadB x) := by
  have := iLoop x hx x.length false false (Nat.le_refl _)
  rw [Nat.sub_self] at this
  exact this
theorem iUsesL (p : List (List S85)) (t : List S85) (x : Nat) (hl : t.length ≤ 1048576) (hx : x ≤ 1048576) (n l : Int) (R : Bool) : ∀ (m : Nat) (u : Int), m ≤ t.length → 0 ≤ u → u + (m : Int) ≤ 1000000000000 →
    Ev (fun k => impl_ProgOk.l0 k n (u + usesI (t.drop (t.length - m))) p l ((x + 1 : Nat) : Int)) R → Ev (fun k => impl_ProgOk.l1 k n u p l x t (t.length : Int) ((t.length - m : Nat) : Int)) R
  | 0, u, _, _, _, h => by
    refine Ev.succ ?_
    simp only [impl_ProgOk.l1]
    rw [Nat.sub_zero, List.drop_length] at h
    simp only [usesI, Int.add_zero] at h
    simp only [Nat.sub_zero, Int.lt_irrefl, if_false]
    rw [w64' (by omega) (by omega)]
    exact h
  | m + 1, u, hm, h0, h1, h => by
    have hlt : t.length - (m + 1) < t.length := by omega
    have hd : t.drop (t.length - (m + 1)) = t[t.length - (m + 1)] :: t.drop (t.length - m) := by
      rw [List.drop_eq_getElem_cons hlt, show t.length - (m + 1) + 1 = t.length - m by omega]
    rw [hd] at h
    simp only [usesI] at h
    refine Ev.succ ?_
    simp only [impl_ProgOk.l1, rd_T85_get hlt, iUses, Option.bind_some]
    simp only [if_pos (show ((t.length - (m + 1) : Nat) : Int) < (t.length : Int) by omega), if_pos (show (0 : Int) ≤ ((t.length - (m + 1) : Nat) : Int) by omega)]
    rw [w64' (x := ((t.length - (m + 1) : Nat) : Int) + 1) (by omega) (by omega), w64' (x := u + 1) (by omega) (by omega), show ((t.length - (m + 1) : Nat) : Int) + 1 = ((t.length - m : Nat) : Int) by omega]
    generalize t[t.length - (m + 1)] = d at *
    by_cases c : usB d.f0 = true
    · rw [if_pos c] at h
      simp only [if_pos c]
      exact iUsesL p t x hl hx n l R m (u + 1) (by omega) (by omega) (by omega) (by rw [Int.add_assoc]; exact h)
    · rw [if_neg c, Int.zero_add] at h
      simp only [if_neg c]
      exact iUsesL p t x hl hx n l R m u (by omega) h0 (by omega) h
theorem iProgL (p : List (List S85)) (hp : Short p) : ∀ (m : Nat) (n u : Int), m ≤ p.length → 0 ≤ n → 0 ≤ u → n + 1048576 * (m : Int) ≤ 100000000000 → u + 1048576 * (m : Int) ≤ 100000000000 →
    Ev (fun k => impl_ProgOk.l0 k n u p (p.length : Int) ((p.length - m : Nat) : Int)) (okL (p.drop (p.length - m)) n u)
  | 0, n, u, _, _, _, _, _ => by
    refine Ev.succ (Ev.now fun k => ?_)
    simp only [impl_ProgOk.l0, Nat.sub_zero, Int.lt_irrefl, if_false, List.drop_length, okL]
    by_cases h : n ≤ 14 <;> simp [h]
  | m + 1, n, u, hm, h0, h1, h2, h3 => by
    have hlt : p.length - (m + 1) < p.length := by omega
    have hd : p.drop (p.length - (m + 1)) = p[p.length - (m + 1)] :: p.drop (p.length - m) := by
      rw [List.drop_eq_getElem_cons hlt, show p.length - (m + 1) + 1 = p.length - m by omega]
    have hl := hp.at hlt
    rw [hd]
    refine Ev.succ ?_
    simp only [impl_ProgOk.l0, rd_L7_get hlt, okL]
    simp only [if_pos (show ((p.length - (m + 1) : Nat) : Int) < (p.length : Int) by omega), if_pos (show (0 : Int) ≤ ((p.length - (m + 1) : Nat) : Int) by omega)]
    refine Ev.bind (iThread _ hl) ?_
    cases hb : threadB p[p.length - (m + 1)]
    · simp only [Bool.false_eq_true, if_false, Bool.false_and]
      exact Ev.const
    · simp only [if_true, Bool.true_and]
      rw [w64' (by omega) (by omega)]
      have hu := usesI_le p[p.length - (m + 1)]
      have := iUsesL p p[p.length - (m + 1)] (p.length - (m + 1)) hl (by have := hp.1; omega) (n + (p[p.length - (m + 1)].length : Int)) (p.length : Int) (okL (p.drop (p.length - m)) (n + (p[p.length - (m + 1)].length : Int)) (u + usesI p[p.length - (m + 1)])) p[p.length - (m + 1)].length u (Nat.le_refl _) h1 (by omega) (by
        rw [Nat.sub_self, List.drop_zero, show p.length - (m + 1) + 1 = p.length - m by omega]
        exact iProgL p hp m _ _ (by omega) (by omega) (by omega) (by omega) (by omega))
      rw [Nat.sub_self] at this
      exact this
theorem iProg (p : List (List S85)) (hp : Short p) : Ev (fun k => impl_ProgOk.f k p) (okP p) := by
  unfold impl_ProgOk.f okP
  by_cases h : (p.length : Int) > 3
  · simp only [if_pos h]
    exact Ev.const.of (by rw [decide_eq_false (by omega)]; rfl)
  · simp only [if_neg h]
    have := iProgL p hp p.length 0 0 (Nat.le_refl _) (by omega) (by omega) (by omega) (by omega)
    rw [Nat.sub_self] at this
    exact this.of (by rw [decide_eq_true (by omega)]; simp)
/-- How many reads there are. -/
def readsI : List S85 → Int
  | [] => 0
  | d :: l => (if rdB d.f0 then 1 else 0) + readsI l
def readsP : List (List S85) → Int
  | [] => 0
  | t :: l => readsI t + readsP l
theorem readsI_le : ∀ l : List S85, 0 ≤ readsI l ∧ readsI l ≤ l.length
  | [] => by simp [readsI]
  | d :: l => by
    have := readsI_le l
    simp only [readsI, List.length_cons]
    split <;> omega
end Go.Proofs.Ytefkbmhkhpekjaa.Pure

namespace Go.Proofs.Ytefkbmhkhpekjaa.Pure
open Go.RowKit Go.Proofs.Ytefkbmhkhpekjaa.PB Go.Proofs.YtefkbmhkhpekjaaW.PrintWords Go.Proofs.YtefkbmhkhpekjaaW.PrintLast
set_option linter.unusedVariables false

/-- A code's reader. -/
structure Rd (b : List Int) : Prop where
  len : b.length ≤ 2000
  u8 : ∀ x ∈ b, 0 ≤ x ∧ x ≤ 255
theorem u8_of_wf' {l : List Int} (h : ∀ x ∈ l, (Lit.int .u8 x).wf = true) : ∀ x ∈ l, 0 ≤ x ∧ x ≤ 255 := by
  intro x hx
  have := h x hx
  simp only [Lit.wf, Bool.and_eq_true, decide_eq_true_eq] at this
  have hmin : IntKind.u8.min = 0 := rfl
  have hmax : IntKind.u8.max = 255 := rfl
  omega
theorem open_ev (l : List Int) (hl : ∀ x ∈ l, (Lit.int .u8 x).wf = true) : ∃ b, Rd b ∧ spec_l6Open.f l = some (b, 0) := by
  have hl := u8_of_wf' hl
  unfold spec_l6Open.f
  by_cases h : (l.length : Int) > 2000
  · rw [if_pos h, if_pos (by omega)]
    exact ⟨_, ⟨by simp; omega, fun x hx => hl x (List.mem_of_mem_take hx)⟩, rfl⟩
  · rw [if_neg h]
    exact ⟨_, ⟨by omega, hl⟩, rfl⟩
/-- A drawing from place s on, of at most c places. -/
def DR {α : Type} (F : Nat → Option (α × Int)) (s c : Int) (P : α → Prop) : Prop := ∃ r s', Ev F (r, s') ∧ s ≤ s' ∧ s' ≤ s + c ∧ P r
theorem DR.bind {α β : Type} {F : Nat → Option (α × Int)} {G : Nat → α × Int → Option (β × Int)} {s c c' : Int} {P : α → Prop} {Q : β → Prop}
    (h : DR F s c P) (g : ∀ r s', s ≤ s' → s' ≤ s + c → P r → DR (fun k => G k (r, s')) s' c' Q) : DR (fun k => (F k).bind (G k)) s (c + c') Q := by
  obtain ⟨r, s', e, h0, h1, hp⟩ := h
  obtain ⟨q, s2, e2, h2, h3, hq⟩ := g r s' h0 h1 hp
  exact ⟨q, s2, e.bind e2, by omega, by omega, hq⟩
theorem DR.ret {α : Type} {r : α} {s c : Int} {P : α → Prop} (hc : 0 ≤ c) (h : P r) : DR (fun _ => some (r, s)) s c P := ⟨r, s, Ev.const, by omega, by omega, h⟩
theorem DR.more {α : Type} {F : Nat → Option (α × Int)} {s c c' : Int} {P Q : α → Prop} (h : DR F s c P) (hc : c ≤ c') (hq : ∀ r, P r → Q r) : DR F s c' Q := by
  obtain ⟨r, s', e, h0, h1, hp⟩ := h
  exact ⟨r, s', e, h0, by omega, hq r hp⟩
theorem DR.succ {α : Type} {F : Nat → Option (α × Int)} {s c : Int} {P : α → Prop} (h : DR (fun k => F (k + 1)) s c P) : DR F s c P := by
  obtain ⟨r, s', e, h0, h1, hp⟩ := h
  exact ⟨r, s', e.succ, h0, h1, hp⟩
theorem DR.congr {α : Type} {F G : Nat → Option (α × Int)} {s c : Int} {P : α → Prop} (h : DR G s c P) (e : ∀ k, F k = G k) : DR F s c P := by
  obtain ⟨r, s', e', h0, h1, hp⟩ := h
  exact ⟨r, s', e'.congr e, h0, h1, hp⟩
theorem pick_dr {b : List Int} (hb : Rd b) (s n : Int) (h0 : 0 ≤ s) (h1 : s ≤ 1000000) (hn : 1 ≤ n) : DR (fun k => spec_l6Rd_pick.f k b s n) s 1 (fun r => 0 ≤ r ∧ r < n) := by
  obtain ⟨r, e, g0, g1, _⟩ := pick_some 0 b s n hb.len hb.u8 h0 (by omega)
  exact ⟨r, s + 1, Ev.mono (fun k => spec_l6Rd_pick.mono b s n k) e, by omega, by omega, g0, g1 hn⟩
theorem DR.ev {α β : Type} {F : Nat → Option α} {G : Nat → α → Option (β × Int)} {a : α} {s c : Int} {P : β → Prop} (h : Ev F a) (g : DR (fun k => G k a) s c P) : DR (fun k => (F k).bind (G k)) s c P := by
  obtain ⟨r, s', e, h0, h1, hp⟩ := g
  exact ⟨r, s', h.bind e, h0, h1, hp⟩
theorem do_dr {b : List Int} (hb : Rd b) (s n : Int) (h0 : 0 ≤ s) (h1 : s ≤ 900000) (hn : 1 ≤ n) : ∃ x y z s', Ev (fun k => spec_l71Do.f k b s n) (x, y, z, s') ∧ s ≤ s' ∧ s' ≤ s + 3 := by
  have key : ∀ (f : Bool) (k s x y z : Int), 0 ≤ s → s ≤ 950000 → ∃ x' y' z' s', Ev (fun k => spec_l71Do.j0 k n f b s x y z) (x', y', z', s') ∧ s ≤ s' ∧ s' ≤ s + 2 := by
    intro f _ s x y z g0 g1
    have last : ∀ (p s : Int), 0 ≤ s → s ≤ 960000 → ∃ z' s', Ev (fun k => if x = 1 then (spec_l6Rd_pick.f k b s 3).bind fun t => some (x, p, wrap64 (1 + t.1), t.2) else if x = 6 then (spec_l6Rd_pick.f k b s 3).bind fun t => some (x, p, wrap64 (1 + t.1), t.2) else some (x, p, z, s)) (x, p, z', s') ∧ s ≤ s' ∧ s' ≤ s + 1 := by
      intro p s q0 q1
      obtain ⟨r, s1, e, e0, e1, _⟩ := pick_dr hb s 3 q0 (by omega) (by omega)
      by_cases hx : x = 1
      · simp only [if_pos hx]
        exact ⟨_, _, e.bind Ev.const, e0, e1⟩
      · simp only [if_neg hx]
        by_cases hx6 : x = 6
        · simp only [if_pos hx6]
          exact ⟨_, _, e.bind Ev.const, e0, e1⟩
        · simp only [if_neg hx6]
          exact ⟨_, _, Ev.const, by omega, by omega⟩
    cases f
    · obtain ⟨z', s', e, e0, e1⟩ := last y s g0 (by omega)
      refine ⟨x, y, z', s', Ev.succ ?_, e0, by omega⟩
      simp only [spec_l71Do.j0, Bool.false_eq_true, if_false]
      exact e
    · obtain ⟨r, s1, e, e0, e1, _⟩ := pick_dr hb s n g0 (by omega) hn
      obtain ⟨z', s', f', f0, f1⟩ := last r s1 (by omega) (by omega)
      refine ⟨x, r, z', s', Ev.succ ?_, by omega, by omega⟩
      simp only [spec_l71Do.j0, if_true]
      exact e.bind f'
  obtain ⟨r, s1, e, e0, e1, r0, r1⟩ := pick_dr hb s 10 h0 (by omega) (by omega)
  obtain ⟨x, y, z, s', f, f0, f1⟩ := key (rdB (rd [1, 1, 1, 2, 2, 2, 3, 4, 5, 6] r) || wrB (rd [1, 1, 1, 2, 2, 2, 3, 4, 5, 6] r)) 0 s1 (rd [1, 1, 1, 2, 2, 2, 3, 4, 5, 6] r) 0 0 (by omega) (by omega)
  refine ⟨x, y, z, s', ?_, by omega, by omega⟩
  unfold spec_l71Do.f
  simp only [Option.bind_some]
  refine e.bind ?_
  simp only [if_pos r0, if_pos (show r < (([1, 1, 1, 2, 2, 2, 3, 4, 5, 6] : List Int).length : Int) from r1), sReads, sWrites, Option.bind_some]
  cases hr : rdB (rd [1, 1, 1, 2, 2, 2, 3, 4, 5, 6] r)
  · rw [hr] at f
    simp only [Bool.false_eq_true, if_false]
    exact f
  · rw [hr] at f
    simp only [if_true]
    exact f
theorem thread_l (b : List Int) (hb : Rd b) (n : Int) (hn : 1 ≤ n) : ∀ (m : Nat) (acc : List S85) (s : Int), acc.length + m ≤ 1000000 → 0 ≤ s → s + 3 * (m : Int) ≤ 800000 →
    DR (fun k => spec_l71Thread.l0 k n acc (m : Int) b s) s (3 * (m : Int)) (fun t => t.length ≤ acc.length + m)
  | 0, acc, s, _, _, _ => by
    refine DR.succ ?_
    simp only [spec_l71Thread.l0]
    exact DR.ret (by omega) (by omega)
  | m + 1, acc, s, hl, h0, h1 => by
    refine DR.succ ?_
    simp only [spec_l71Thread.l0, if_pos (show ((m + 1 : Nat) : Int) > 0 by omega)]
    obtain ⟨x, y, z, s', e, e0, e1⟩ := do_dr hb s n h0 (by omega) hn
    refine DR.ev e ?_
    simp only [if_pos (show acc.length < 5864062014805 by omega)]
    rw [w64' (by omega) (by omega), show ((m + 1 : Nat) : Int) - 1 = (m : Int) by omega]
    obtain ⟨t, s2, f, f0, f1, ft⟩ := thread_l b hb n hn m (acc ++ [⟨x, y, z⟩]) s' (by simp; omega) (by omega) (by omega)
    exact ⟨t, s2, f, by omega, by omega, by simp at ft; omega⟩
theorem thread_dr {b : List Int} (hb : Rd b) (s q n : Int) (h0 : 0 ≤ s) (h1 : s ≤ 700000) (hn : 1 ≤ n) (q0 : 0 ≤ q) (q1 : q ≤ 10) : DR (fun k => spec_l71Thread.f k b s q n) s 31 (fun t => t.length ≤ 10) := by
  unfold spec_l71Thread.f
  rw [w64' (by omega) (by omega)]
  refine (DR.bind (c := 1) (c' := 30) (pick_dr hb s (q + 1) h0 (by omega) (by omega)) ?_).more (by omega) (fun _ h => h)
  intro r s' g0 g1 ⟨r0, r1⟩
  obtain ⟨m, rfl⟩ := Int.eq_ofNat_of_zero_le r0
  exact (thread_l b hb n hn m [] s' (by simp; omega) (by omega) (by omega)).more (by omega) (fun t h => by simp at h; omega)
end Go.Proofs.Ytefkbmhkhpekjaa.Pure

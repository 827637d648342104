/- What the exact laws do to a row of whole numbers: its copy, that it is the same as itself, its marks. Plain Lean over the printed functions. No condition but the size. -/
import Derived.Test.YtefkbmhkhpekjaaJFnExactTurnSeenx4
import Derived.Test.YtefkbmhkhpekjaaPBx55
import Derived.Test.YtefkbmhkhpekjaaPBx56
import Derived.Test.YtefkbmhkhpekjaaJFnExactTurnSeenyOkProg
namespace Go.Proofs.Ytefkbmhkhpekjaa.Pure
open Go.RowKit Go.Proofs.Ytefkbmhkhpekjaa.PB Go.Proofs.YtefkbmhkhpekjaaW.PrintWords Go.Proofs.YtefkbmhkhpekjaaW.PrintLast
set_option linter.unusedVariables false

theorem rd_mid (a b : List Int) (x : Int) : rd (a ++ x :: b) (a.length : Int) = x := by
  unfold rd
  rw [Int.toNat_natCast]
  simp
theorem toIntSL : ∀ (b a : List Int), a.length + b.length ≤ 20000000 →
    Ev (fun k => laws_toIntS.l0 k (a ++ b) (a ++ List.replicate b.length 0) (a.length : Int)) (a ++ b)
  | [], a, hl => by
    refine Ev.succ (Ev.now fun k => ?_)
    simp [laws_toIntS.l0]
  | d :: b, a, hl => by
    rw [List.length_cons] at hl
    refine Ev.succ (Ev.congr ((toIntSL b (a ++ [d]) (by simp; omega)).of (by simp)) fun k => ?_)
    simp only [laws_toIntS.l0, rd_mid]
    rw [if_pos (by simp; omega), if_pos (by omega), if_pos (by simp; omega), w64' (by omega) (by omega)]
    rw [Int.toNat_natCast, List.length_cons, List.replicate_succ, List.set_append_right (h := by omega), Nat.sub_self, List.set_cons_zero]
    simp
theorem toIntS_ev (t : List Int) (h : t.length ≤ 1048576) : Ev (fun k => laws_toIntS.f k t) t := by
  unfold laws_toIntS.f
  simp only [if_pos (show (0 : Int) ≤ (t.length : Int) by omega), Int.toNat_natCast, if_pos (show t.length ≤ 35184372088832 by omega)]
  exact toIntSL t [] (by simp; omega)
theorem eqIntSL (t : List Int) (ht : t.length ≤ 20000000) : ∀ m : Nat, m ≤ t.length → Ev (fun k => laws_eqIntS.l0 k t t ((t.length - m : Nat) : Int)) true
  | 0, _ => by
    refine Ev.succ (Ev.now fun k => ?_)
    simp [laws_eqIntS.l0]
  | m + 1, hm => by
    refine Ev.succ (Ev.congr (eqIntSL t ht m (by omega)) fun k => ?_)
    simp only [laws_eqIntS.l0, if_true]
    rw [if_pos (by omega), if_pos (by omega), w64' (by omega) (by omega), show ((t.length - (m + 1) : Nat) : Int) + 1 = ((t.length - m : Nat) : Int) by omega, if_pos (by omega)]
theorem eqIntS_ev (t : List Int) (ht : t.length ≤ 1048576) : Ev (fun k => laws_eqIntS.f k t t) true := by
  unfold laws_eqIntS.f
  simp only [if_true]
  have := eqIntSL t (by omega) _ (Nat.le_refl _)
  rw [Nat.sub_self] at this
  exact this
theorem eqIntS_big (t : List Int) (ht : t.length ≤ 8000000) : Ev (fun k => laws_eqIntS.f k t t) true := by
  unfold laws_eqIntS.f
  simp only [if_true]
  have := eqIntSL t (by omega) _ (Nat.le_refl _)
  rw [Nat.sub_self] at this
  exact this
/-- A row, marked from n on. -/
def markI : List Int → Int → List Int
  | [], _ => []
  | _ :: l, n => n :: markI l (n + 1)
theorem markIntSL : ∀ (b a : List Int) (n : Int), a.length + b.length ≤ 20000000 → 0 ≤ n → n + (b.length : Int) ≤ 100000000000000 →
    Ev (fun k => laws_markIntS.l0 k (a ++ b) n (a.length : Int)) (n + (b.length : Int), a ++ markI b n)
  | [], a, n, h, h0, h1 => by
    refine Ev.succ (Ev.now fun k => ?_)
    simp [laws_markIntS.l0, markI]
  | d :: b, a, n, h, h0, h1 => by
    rw [List.length_cons] at h h1
    refine Ev.succ (Ev.congr ((markIntSL b (a ++ [n]) (n + 1) (by simp; omega) (by omega) (by omega)).of (by simp [markI]; omega)) fun k => ?_)
    simp only [laws_markIntS.l0, Int.toNat_natCast]
    rw [if_pos (by simp; omega), if_pos (by omega), w64' (x := n + 1) (by omega) (by omega), w64' (x := (a.length : Int) + 1) (by omega) (by omega)]
    simp
theorem markIntS_ev (t : List Int) (n : Int) (ht : t.length ≤ 1048576) (h0 : 0 ≤ n) (h1 : n ≤ 50000000000000) : Ev (fun k => laws_markIntS.f k t n) (n + (t.length : Int), markI t n) :=
  markIntSL t [] n (by simp; omega) h0 (by omega)
theorem markIntS_big (t : List Int) (n : Int) (ht : t.length ≤ 8000000) (h0 : 0 ≤ n) (h1 : n ≤ 50000000000000) : Ev (fun k => laws_markIntS.f k t n) (n + (t.length : Int), markI t n) :=
  markIntSL t [] n (by simp; omega) h0 (by omega)
end Go.Proofs.Ytefkbmhkhpekjaa.Pure

/- What is drawn of a thread: a code opened, a number, a step, a thread. Plain Lean over the printed functions. No condition. -/
import Derived.Test.YtefkbmhkhpekjaaPick
import Derived.Test.YtefkbmhkhpekjaaJFnTurnBesideyOkProg
import Derived.Test.YtefkbmhkhpekjaaPBx70
import Derived.Test.YtefkbmhkhpekjaaPBx86
namespace Go.Proofs.Ytefkbmhkhpekjaa.Pure
open Go.RowKit Go.Proofs.Ytefkbmhkhpekjaa.PB Go.Proofs.YtefkbmhkhpekjaaW.PrintWords Go.Proofs.YtefkbmhkhpekjaaW.PrintLast
set_option linter.unusedVariables false

/-- A code's reader. -/
structure Rd (b : List Int) : Prop where
  len : b.length ≤ 2000
  u8 : ∀ x ∈ b, 0 ≤ x ∧ x ≤ 255
theorem u8_of_wf' {l : List Int} (h : ∀ x ∈ l, (Lit.int .u8 x).wf = true) : ∀ x ∈ l, 0 ≤ x ∧ x ≤ 255 := by
  intro x hx
  have := h x hx
  simp only [Lit.wf, Bool.and_eq_true, decide_eq_true_eq] at this
  have hmin : IntKind.u8.min = 0 := rfl
  have hmax : IntKind.u8.max = 255 := rfl
  omega
theorem open_ev (l : List Int) (hl : ∀ x ∈ l, (Lit.int .u8 x).wf = true) : ∃ b, Rd b ∧ spec_l6Open.f l = some (b, 0) := by
  have hl := u8_of_wf' hl
  unfold spec_l6Open.f
  by_cases h : (l.length : Int) > 2000
  · rw [if_pos h, if_pos (by omega)]
    exact ⟨_, ⟨by simp; omega, fun x hx => hl x (List.mem_of_mem_take hx)⟩, rfl⟩
  · rw [if_neg h]
    exact ⟨_, ⟨by omega, hl⟩, rfl⟩
/-- A drawing from place s on, of at most c places. -/
def DR {α : Type} (F : Nat → Option (α × Int)) (s c : Int) (P : α → Prop) : Prop := ∃ r s', Ev F (r, s') ∧ s ≤ s' ∧ s' ≤ s + c ∧ P r
theorem DR.bind {α β : Type} {F : Nat → Option (α × Int)} {G : Nat → α × Int → Option (β × Int)} {s c c' : Int} {P : α → Prop} {Q : β → Prop}
    (h : DR F s c P) (g : ∀ r s', s ≤ s' → s' ≤ s + c → P r → DR (fun k => G k (r, s')) s' c' Q) : DR (fun k => (F k).bind (G k)) s (c + c') Q := by
  obtain ⟨r, s', e, h0, h1, hp⟩ := h
  obtain ⟨q, s2, e2, h2, h3, hq⟩ := g r s' h0 h1 hp
  exact ⟨q, s2, e.bind e2, by omega, by omega, hq⟩
theorem DR.ret {α : Type} {r : α} {s c : Int} {P : α → Prop} (hc : 0 ≤ c) (h : P r) : DR (fun _ => some (r, s)) s c P := ⟨r, s, Ev.const, by omega, by omega, h⟩
theorem DR.more {α : Type} {F : Nat → Option (α × Int)} {s c c' : Int} {P Q : α → Prop} (h : DR F s c P) (hc : c ≤ c') (hq : ∀ r, P r → Q r) : DR F s c' Q := by
  obtain ⟨r, s', e, h0, h1, hp⟩ := h
  exact ⟨r, s', e, h0, by omega, hq r hp⟩
theorem DR.succ {α : Type} {F : Nat → Option (α × Int)} {s c : Int} {P : α → Prop} (h : DR (fun k => F (k + 1)) s c P) : DR F s c P := by
  obtain ⟨r, s', e, h0, h1, hp⟩ := h
  exact ⟨r, s', e.succ, h0, h1, hp⟩
theorem DR.congr {α : Type} {F G : Nat → Option (α × Int)} {s c : Int} {P : α → Prop} (h : DR G s c P) (e : ∀ k, F k = G k) : DR F s c P := by
  obtain ⟨r, s', e', h0, h1, hp⟩ := h
  exact ⟨r, s', e'.congr e, h0, h1, hp⟩
theorem pick_dr {b : List Int} (hb : Rd b) (s n : Int) (h0 : 0 ≤ s) (h1 : s ≤ 1000000) (hn : 1 ≤ n) : DR (fun k => spec_l6Rd_pick.f k b s n) s 1 (fun r => 0 ≤ r ∧ r < n) := by
  obtain ⟨r, e, g0, g1, _⟩ := pick_some 0 b s n hb.len hb.u8 h0 (by omega)
  exact ⟨r, s + 1, Ev.mono (fun k => spec_l6Rd_pick.mono b s n k) e, by omega, by omega, g0, g1 hn⟩
theorem DR.ev {α β : Type} {F : Nat → Option α} {G : Nat → α → Option (β × Int)} {a : α} {s c : Int} {P : β → Prop} (h : Ev F a) (g : DR (fun k => G k a) s c P) : DR (fun k => (F k).bind (G k)) s c P := by
  obtain ⟨r, s', e, h0, h1, hp⟩ := g
  exact ⟨r, s', h.bind e, h0, h1, hp⟩
theorem do_dr {b : List Int} (hb : Rd b) (s n : Int) (h0 : 0 ≤ s) (h1 : s ≤ 900000) (hn : 1 ≤ n) : ∃ x y z s', Ev (fun k => spec_l71Do.f k b s n) (x, y, z, s') ∧ s ≤ s' ∧ s' ≤ s + 3 := by
  have key : ∀ (f : Bool) (k s x y z : Int), 0 ≤ s → s ≤ 950000 → ∃ x' y' z' s', Ev (fun k => spec_l71Do.j0 k n f b s x y z) (x', y', z', s') ∧ s ≤ s' ∧ s' ≤ s + 2 := by
    intro f _ s x y z g0 g1
    have last : ∀ (p s : Int), 0 ≤ s → s ≤ 960000 → ∃ z' s', Ev (fun k => if x = 1 then (spec_l6Rd_pick.f k b s 3).bind fun t => some (x, p, wrap64 (1 + t.1), t.2) else if x = 6 then (spec_l6Rd_pick.f k b s 3).bind fun t => some (x, p, wrap64 (1 + t.1), t.2) else some (x, p, z, s)) (x, p, z', s') ∧ s ≤ s' ∧ s' ≤ s + 1 := by
      intro p s q0 q1
      obtain ⟨r, s1, e, e0, e1, _⟩ := pick_dr hb s 3 q0 (by omega) (by omega)
      by_cases hx : x = 1
      · simp only [if_pos hx]
        exact ⟨_, _, e.bind Ev.const, e0, e1⟩
      · simp only [if_neg hx]
        by_cases hx6 : x = 6
        · simp only [if_pos hx6]
          exact ⟨_, _, e.bind Ev.const, e0, e1⟩
        · simp only [if_neg hx6]
          exact ⟨_, _, Ev.const, by omega, by omega⟩
    cases f
    · obtain ⟨z', s', e, e0, e1⟩ := last y s g0 (by omega)
      refine ⟨x, y, z', s', Ev.succ ?_, e0, by omega⟩
      simp only [spec_l71Do.j0, Bool.false_eq_true, if_false]
      exact e
    · obtain ⟨r, s1, e, e0, e1, _⟩ := pick_dr hb s n g0 (by omega) hn
      obtain ⟨z', s', f', f0, f1⟩ := last r s1 (by omega) (by omega)
      refine ⟨x, r, z', s', Ev.succ ?_, by omega, by omega⟩
      simp only [spec_l71Do.j0, if_true]
      exact e.bind f'
  obtain ⟨r, s1, e, e0, e1, r0, r1⟩ := pick_dr hb s 10 h0 (by omega) (by omega)
  obtain ⟨x, y, z, s', f, f0, f1⟩ := key (rdB (rd [1, 1, 1, 2, 2, 2, 3, 4, 5, 6] r) || wrB (rd [1, 1, 1, 2, 2, 2, 3, 4, 5, 6] r)) 0 s1 (rd [1, 1, 1, 2, 2, 2, 3, 4, 5, 6] r) 0 0 (by omega) (by omega)
  refine ⟨x, y, z, s', ?_, by omega, by omega⟩
  unfold spec_l71Do.f
  simp only [Option.bind_some]
  refine e.bind ?_
  simp only [if_pos r0, if_pos (show r < (([1, 1, 1, 2, 2, 2, 3, 4, 5, 6] : List Int).length : Int) from r1), sReads, sWrites, Option.bind_some]
  cases hr : rdB (rd [1, 1, 1, 2, 2, 2, 3, 4, 5, 6] r)
  · rw [hr] at f
    simp only [Bool.false_eq_true, if_false]
    exact f
  · rw [hr] at f
    simp only [if_true]
    exact f
theorem thread_l (b : List Int) (hb : Rd b) (n : Int) (hn : 1 ≤ n) : ∀ (m : Nat) (acc : List S85) (s : Int), acc.length + m ≤ 1000000 → 0 ≤ s → s + 3 * (m : Int) ≤ 800000 →
    DR (fun k => spec_l71Thread.l0 k n acc (m : Int) b s) s (3 * (m : Int)) (fun t => t.length ≤ acc.length + m)
  | 0, acc, s, _, _, _ => by
    refine DR.succ ?_
    simp only [spec_l71Thread.l0]
    exact DR.ret (by omega) (by omega)
  | m + 1, acc, s, hl, h0, h1 => by
    refine DR.succ ?_
    simp only [spec_l71Thread.l0, if_pos (show ((m + 1 : Nat) : Int) > 0 by omega)]
    obtain ⟨x, y, z, s', e, e0, e1⟩ := do_dr hb s n h0 (by omega) hn
    refine DR.ev e ?_
    simp only [if_pos (show acc.length < 5864062014805 by omega)]
    rw [w64' (by omega) (by omega), show ((m + 1 : Nat) : Int) - 1 = (m : Int) by omega]
    obtain ⟨t, s2, f, f0, f1, ft⟩ := thread_l b hb n hn m (acc ++ [⟨x, y, z⟩]) s' (by simp; omega) (by omega) (by omega)
    exact ⟨t, s2, f, by omega, by omega, by simp at ft; omega⟩
theorem thread_dr {b : List Int} (hb : Rd b) (s q n : Int) (h0 : 0 ≤ s) (h1 : s ≤ 700000) (hn : 1 ≤ n) (q0 : 0 ≤ q) (q1 : q ≤ 10) : DR (fun k => spec_l71Thread.f k b s q n) s 31 (fun t => t.length ≤ 10) := by
  unfold spec_l71Thread.f
  rw [w64' (by omega) (by omega)]
  refine (DR.bind (c := 1) (c' := 30) (pick_dr hb s (q + 1) h0 (by omega) (by omega)) ?_).more (by omega) (fun _ h => h)
  intro r s' g0 g1 ⟨r0, r1⟩
  obtain ⟨m, rfl⟩ := Int.eq_ofNat_of_zero_le r0
  exact (thread_l b hb n hn m [] s' (by simp; omega) (by omega) (by omega)).more (by omega) (fun t h => by simp at h; omega)
end Go.Proofs.Ytefkbmhkhpekjaa.Pure

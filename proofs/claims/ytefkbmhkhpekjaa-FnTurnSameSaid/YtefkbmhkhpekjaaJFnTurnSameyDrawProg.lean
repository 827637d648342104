/- What is drawn of a program: for every code there is one, of one to three threads, none of them long. Plain Lean over the printed functions. No condition. -/
import Derived.Test.YtefkbmhkhpekjaaJFnTurnSameyPick
import Derived.Test.YtefkbmhkhpekjaaJFnTurnSamex0
import Derived.Test.YtefkbmhkhpekjaaJFnTurnSameyOkProg
namespace Go.Proofs.Ytefkbmhkhpekjaa.Pure
open Go.RowKit Go.Proofs.Ytefkbmhkhpekjaa.PB Go.Proofs.YtefkbmhkhpekjaaW.PrintWords Go.Proofs.YtefkbmhkhpekjaaW.PrintLast
set_option linter.unusedVariables false

/-- A code's reader. -/
structure Rd (b : List Int) : Prop where
  len : b.length ≤ 2000
  u8 : ∀ x ∈ b, 0 ≤ x ∧ x ≤ 255
theorem u8_of_wf' {l : List Int} (h : ∀ x ∈ l, (Lit.int .u8 x).wf = true) : ∀ x ∈ l, 0 ≤ x ∧ x ≤ 255 := by
  intro x hx
  have := h x hx
  simp only [Lit.wf, Bool.and_eq_true, decide_eq_true_eq] at this
  have hmin : IntKind.u8.min = 0 := rfl
  have hmax : IntKind.u8.max = 255 := rfl
  omega
theorem open_ev (l : List Int) (hl : ∀ x ∈ l, (Lit.int .u8 x).wf = true) : ∃ b, Rd b ∧ spec_l6Open.f l = some (b, 0) := by
  have hl := u8_of_wf' hl
  unfold spec_l6Open.f
  by_cases h : (l.length : Int) > 2000
  · rw [if_pos h, if_pos (by omega)]
    exact ⟨_, ⟨by simp; omega, fun x hx => hl x (List.mem_of_mem_take hx)⟩, rfl⟩
  · rw [if_neg h]
    exact ⟨_, ⟨by omega, hl⟩, rfl⟩
/-- A drawing from place s on, of at most c places. -/
def DR {α : Type} (F : Nat → Option (α × Int)) (s c : Int) (P : α → Prop) : Prop := ∃ r s', Ev F (r, s') ∧ s ≤ s' ∧ s' ≤ s + c ∧ P r
theorem DR.bind {α β : Type} {F : Nat → Option (α × Int)} {G : Nat → α × Int → Option (β × Int)} {s c c' : Int} {P : α → Prop} {Q : β → Prop}
    (h : DR F s c P) (g : ∀ r s', s ≤ s' → s' ≤ s + c → P r → DR (fun k => G k (r, s')) s' c' Q) : DR (fun k => (F k).bind (G k)) s (c + c') Q := by
  obtain ⟨r, s', e, h0, h1, hp⟩ := h
  obtain ⟨q, s2, e2, h2, h3, hq⟩ := g r s' h0 h1 hp
  exact ⟨q, s2, e.bind e2, by omega, by omega, hq⟩
theorem DR.ret {α : Type} {r : α} {s c : Int} {P : α → Prop} (hc : 0 ≤ c) (h : P r) : DR (fun _ => some (r, s)) s c P := ⟨r, s, Ev.const, by omega, by omega, h⟩
theorem DR.more {α : Type} {F : Nat → Option (α × Int)} {s c c' : Int} {P Q : α → Prop} (h : DR F s c P) (hc : c ≤ c') (hq : ∀ r, P r → Q r) : DR F s c' Q := by
  obtain ⟨r, s', e, h0, h1, hp⟩ := h
  exact ⟨r, s', e, h0, by omega, hq r hp⟩
theorem DR.succ {α : Type} {F : Nat → Option (α × Int)} {s c : Int} {P : α → Prop} (h : DR (fun k => F (k + 1)) s c P) : DR F s c P := by
  obtain ⟨r, s', e, h0, h1, hp⟩ := h
  exact ⟨r, s', e.succ, h0, h1, hp⟩
theorem DR.congr {α : Type} {F G : Nat → Option (α × Int)} {s c : Int} {P : α → Prop} (h : DR G s c P) (e : ∀ k, F k = G k) : DR F s c P := by
  obtain ⟨r, s', e', h0, h1, hp⟩ := h
  exact ⟨r, s', e'.congr e, h0, h1, hp⟩
theorem pick_dr {b : List Int} (hb : Rd b) (s n : Int) (h0 : 0 ≤ s) (h1 : s ≤ 1000000) (hn : 1 ≤ n) : DR (fun k => spec_l6Rd_pick.f k b s n) s 1 (fun r => 0 ≤ r ∧ r < n) := by
  obtain ⟨r, e, g0, g1, _⟩ := pick_some 0 b s n hb.len hb.u8 h0 (by omega)
  exact ⟨r, s + 1, Ev.mono (fun k => spec_l6Rd_pick.mono b s n k) e, by omega, by omega, g0, g1 hn⟩
theorem DR.ev {α β : Type} {F : Nat → Option α} {G : Nat → α → Option (β × Int)} {a : α} {s c : Int} {P : β → Prop} (h : Ev F a) (g : DR (fun k => G k a) s c P) : DR (fun k => (F k).bind (G k)) s c P := by
  obtain ⟨r, s', e, h0, h1, hp⟩ := g
  exact ⟨r, s', h.bind e, h0, h1, hp⟩
theorem do_dr {b : List Int} (hb : Rd b) (s n : Int) (h0 : 0 ≤ s) (h1 : s ≤ 900000) (hn : 1 ≤ n) : ∃ x y z s', Ev (fun k => spec_l71Do.f k b s n) (x, y, z, s') ∧ s ≤ s' ∧ s' ≤ s + 3 := by
  have key : ∀ (f : Bool) (k s x y z : Int), 0 ≤ s → s ≤ 950000 → ∃ x' y' z' s', Ev (fun k => spec_l71Do.j0 k n f b s x y z) (x', y', z', s') ∧ s ≤ s' ∧ s' ≤ s + 2 := by
    intro f _ s x y z g0 g1
    have last : ∀ (p s : Int), 0 ≤ s → s ≤ 960000 → ∃ z' s', Ev (fun k => if x = 1 then (spec_l6Rd_pick.f k b s 3).bind fun t => some (x, p, wrap64 (1 + t.1), t.2) else if x = 6 then (spec_l6Rd_pick.f k b s 3).bind fun t => some (x, p, wrap64 (1 + t.1), t.2) else some (x, p, z, s)) (x, p, z', s') ∧ s ≤ s' ∧ s' ≤ s + 1 := by
      intro p s q0 q1
      obtain ⟨r, s1, e, e0, e1, _⟩ := pick_dr hb s 3 q0 (by omega) (by omega)
      by_cases hx : x = 1
      · simp only [if_pos hx]
        exact ⟨_, _, e.bind Ev.const, e0, e1⟩
      · simp only [if_neg hx]
        by_cases hx6 : x = 6
        · simp only [if_pos hx6]
          exact ⟨_, _, e.bind Ev.const, e0, e1⟩
        · simp only [if_neg hx6]
          exact ⟨_, _, Ev.const, by omega, by omega⟩
    cases f
    · obtain ⟨z', s', e, e0, e1⟩ := last y s g0 (by omega)
      refine ⟨x, y, z', s', Ev.succ ?_, e0, by omega⟩
      simp only [spec_l71Do.j0, Bool.false_eq_true, if_false]
      exact e
    · obtain ⟨r, s1, e, e0, e1, _⟩ := pick_dr hb s n g0 (by omega) hn
      obtain ⟨z', s', f', f0, f1⟩ := last r s1 (by omega) (by omega)
      refine ⟨x, r, z', s', Ev.succ ?_, by omega, by omega⟩
      simp only [spec_l71Do.j0, if_true]
      exact e.bind f'
  obtain ⟨r, s1, e, e0, e1, r0, r1⟩ := pick_dr hb s 10 h0 (by omega) (by omega)
  obtain ⟨x, y, z, s', f, f0, f1⟩ := key (rdB (rd [1, 1, 1, 2, 2, 2, 3, 4, 5, 6] r) || wrB (rd [1, 1, 1, 2, 2, 2, 3, 4, 5, 6] r)) 0 s1 (rd [1, 1, 1, 2, 2, 2, 3, 4, 5, 6] r) 0 0 (by omega) (by omega)
  refine ⟨x, y, z, s', ?_, by omega, by omega⟩
  unfold spec_l71Do.f
  simp only [Option.bind_some]
  refine e.bind ?_
  simp only [if_pos r0, if_pos (show r < (([1, 1, 1, 2, 2, 2, 3, 4, 5, 6] : List Int).length : Int) from r1), sReads, sWrites, Option.bind_some]
  cases hr : rdB (rd [1, 1, 1, 2, 2, 2, 3, 4, 5, 6] r)
  · rw [hr] at f
    simp only [Bool.false_eq_true, if_false]
    exact f
  · rw [hr] at f
    simp only [if_true]
    exact f
theorem thread_l (b : List Int) (hb : Rd b) (n : Int) (hn : 1 ≤ n) : ∀ (m : Nat) (acc : List S85) (s : Int), acc.length + m ≤ 1000000 → 0 ≤ s → s + 3 * (m : Int) ≤ 800000 →
    DR (fun k => spec_l71Thread.l0 k n acc (m : Int) b s) s (3 * (m : Int)) (fun t => t.length ≤ acc.length + m)
  | 0, acc, s, _, _, _ => by
    refine DR.succ ?_
    simp only [spec_l71Thread.l0]
    exact DR.ret (by omega) (by omega)
  | m + 1, acc, s, hl, h0, h1 => by
    refine DR.succ ?_
    simp only [spec_l71Thread.l0, if_pos (show ((m + 1 : Nat) : Int) > 0 by omega)]
    obtain ⟨x, y, z, s', e, e0, e1⟩ := do_dr hb s n h0 (by omega) hn
    refine DR.ev e ?_
    simp only [if_pos (show acc.length < 5864062014805 by omega)]
    rw [w64' (by omega) (by omega), show ((m + 1 : Nat) : Int) - 1 = (m : Int) by omega]
    obtain ⟨t, s2, f, f0, f1, ft⟩ := thread_l b hb n hn m (acc ++ [⟨x, y, z⟩]) s' (by simp; omega) (by omega) (by omega)
    exact ⟨t, s2, f, by omega, by omega, by simp at ft; omega⟩
theorem thread_dr {b : List Int} (hb : Rd b) (s q n : Int) (h0 : 0 ≤ s) (h1 : s ≤ 700000) (hn : 1 ≤ n) (q0 : 0 ≤ q) (q1 : q ≤ 10) : DR (fun k => spec_l71Thread.f k b s q n) s 31 (fun t => t.length ≤ 10) := by
  unfold spec_l71Thread.f
  rw [w64' (by omega) (by omega)]
  refine (DR.bind (c := 1) (c' := 30) (pick_dr hb s (q + 1) h0 (by omega) (by omega)) ?_).more (by omega) (fun _ h => h)
  intro r s' g0 g1 ⟨r0, r1⟩
  obtain ⟨m, rfl⟩ := Int.eq_ofNat_of_zero_le r0
  exact (thread_l b hb n hn m [] s' (by simp; omega) (by omega) (by omega)).more (by omega) (fun t h => by simp at h; omega)
theorem reader_dr {b : List Int} (hb : Rd b) (s n : Int) (h0 : 0 ≤ s) (h1 : s ≤ 700000) (hn : 1 ≤ n) : DR (fun k => spec_l71Reader.f k b s n) s 6 (fun t => t.length ≤ 10) := by
  unfold spec_l71Reader.f
  refine (DR.bind (c := 1) (c' := 5) (pick_dr hb s n h0 (by omega) hn) ?_).more (by omega) (fun _ h => h)
  intro r1 s1 g0 g1 _
  refine (DR.bind (c := 1) (c' := 4) (pick_dr hb s1 n (by omega) (by omega) hn) ?_).more (by omega) (fun _ h => h)
  intro r2 s2 g2 g3 _
  simp only [Option.bind_some]
  refine (DR.bind (c := 1) (c' := 3) (pick_dr hb s2 3 (by omega) (by omega) (by omega)) ?_).more (by omega) (fun _ h => h)
  intro r3 s3 g4 g5 _
  by_cases h : r3 = 0
  · simp only [if_pos h]
    obtain ⟨x, y, z, s', e, e0, e1⟩ := do_dr hb s3 n (by omega) (by omega) hn
    refine DR.ev e ?_
    simp only [if_pos (show (2 : Int) < ((([(⟨7, 0, 0⟩ : S85), (⟨2, r1, 0⟩ : S85), (⟨2, r2, 0⟩ : S85), (⟨8, 0, 0⟩ : S85)] : List S85)).length : Int) by simp)]
    exact ⟨_, s', Ev.const, by omega, by omega, by simp⟩
  · simp only [if_neg h]
    exact DR.ret (by omega) (by simp)
theorem waiter_dr {b : List Int} (hb : Rd b) (s n : Int) (h0 : 0 ≤ s) (h1 : s ≤ 700000) (hn : 1 ≤ n) : DR (fun k => spec_l71Waiter.f k b s n) s 5 (fun t => t.length ≤ 10) := by
  unfold spec_l71Waiter.f
  refine (DR.bind (c := 1) (c' := 4) (pick_dr hb s n h0 (by omega) hn) ?_).more (by omega) (fun _ h => h)
  intro r1 s1 g0 g1 _
  refine (DR.bind (c := 1) (c' := 3) (pick_dr hb s1 2 (by omega) (by omega) (by omega)) ?_).more (by omega) (fun _ h => h)
  intro r2 s2 g2 g3 _
  simp only [Option.bind_some]
  refine (DR.bind (c := 1) (c' := 2) (pick_dr hb s2 2 (by omega) (by omega) (by omega)) ?_).more (by omega) (fun _ h => h)
  intro r3 s3 g4 g5 ⟨q0, q1⟩
  simp only [if_pos q0, if_pos (show r3 < (([1, 6] : List Int).length : Int) from q1)]
  refine (DR.bind (c := 1) (c' := 1) (pick_dr hb s3 n (by omega) (by omega) hn) ?_).more (by omega) (fun _ h => h)
  intro r4 s4 g6 g7 _
  refine (DR.bind (c := 1) (c' := 0) (pick_dr hb s4 2 (by omega) (by omega) (by omega)) ?_).more (by omega) (fun _ h => h)
  intro r5 s5 g8 g9 _
  exact DR.ret (by omega) (by simp)
/-- A drawn program. -/
def Good (p : List (List S85)) : Prop := 1 ≤ p.length ∧ p.length ≤ 3 ∧ ∀ t ∈ p, t.length ≤ 30
theorem Good.short {p : List (List S85)} (h : Good p) : Short p := ⟨by have := h.2.1; omega, fun t ht => by have := h.2.2 t ht; omega⟩
theorem stepsL (p : List (List S85)) (hp : Short p) : ∀ (m : Nat) (n : Int), m ≤ p.length → 0 ≤ n → n + 1000000 * (m : Int) ≤ 100000000000 → ∃ r, Ev (fun k => spec_l71Steps.l0 k n ((p.length - m : Nat) : Int) p) r
  | 0, n, _, _, _ => by
    refine ⟨n, Ev.succ (Ev.now fun k => ?_)⟩
    simp only [spec_l71Steps.l0, Nat.sub_zero, Int.lt_irrefl, if_false]
  | m + 1, n, hm, h0, h1 => by
    have hlt : p.length - (m + 1) < p.length := by omega
    have hl := hp.at hlt
    have hp1 := hp.1
    obtain ⟨r, e⟩ := stepsL p hp m (n + (p[p.length - (m + 1)].length : Int)) (by omega) (by omega) (by omega)
    refine ⟨r, Ev.succ ?_⟩
    simp only [spec_l71Steps.l0, rd_L7_get hlt, if_pos (show ((p.length - (m + 1) : Nat) : Int) < (p.length : Int) by omega), if_pos (show (0 : Int) ≤ ((p.length - (m + 1) : Nat) : Int) by omega)]
    rw [w64' (by omega) (by omega), w64' (by omega) (by omega), show ((p.length - (m + 1) : Nat) : Int) + 1 = ((p.length - m : Nat) : Int) by omega]
    exact e
theorem steps_ev (p : List (List S85)) (hp : Short p) : ∃ r, Ev (fun k => spec_l71Steps.f k p) r := by
  have := stepsL p hp p.length 0 (Nat.le_refl _) (by omega) (by have := hp.1; omega)
  rw [Nat.sub_self] at this
  exact this
theorem prog_l1 (b : List Int) (hb : Rd b) (M pl : Int) (hM : M = 2 ∨ M = 3) (hpl : 1 ≤ pl) : ∀ (j : Nat) (p : List (List S85)) (s : Int), (j : Int) ≤ M → p.length + j ≤ 3 → (∀ t ∈ p, t.length ≤ 20) → 0 ≤ s → s + 40 * (j : Int) ≤ 600000 →
    DR (fun k => spec_l71Prog.l1 k M (M - j) pl p b s) s (40 * (j : Int)) (fun q => q.length = p.length + j ∧ ∀ t ∈ q, t.length ≤ 20)
  | 0, p, s, _, _, hp, _, _ => by
    refine DR.succ ?_
    simp only [spec_l71Prog.l1, if_neg (show ¬ M - ((0 : Nat) : Int) < M by omega)]
    exact DR.ret (by omega) ⟨by omega, hp⟩
  | j + 1, p, s, hj, hl, hp, h0, h1 => by
    refine DR.succ ?_
    simp only [spec_l71Prog.l1, if_pos (show M - ((j + 1 : Nat) : Int) < M by omega), if_neg (show ¬ M = 0 by omega), if_pos (show p.length < 1000 by omega)]
    refine (DR.bind (c := 1) (c' := 31 + 40 * (j : Int)) (pick_dr hb s 2 h0 (by omega) (by omega)) ?_).more (by omega) (fun _ h => h)
    intro r s1 g0 g1 ⟨r0, r1⟩
    have hd : 0 ≤ wrap64 (wrap64 (Int.tdiv 6 M) + r) ∧ wrap64 (wrap64 (Int.tdiv 6 M) + r) ≤ 10 := by
      rcases hM with rfl | rfl
      · rw [show wrap64 (Int.tdiv 6 2) = 3 by rw [show Int.tdiv 6 2 = 3 from rfl]; exact w64' (by omega) (by omega), w64' (by omega) (by omega)]; omega
      · rw [show wrap64 (Int.tdiv 6 3) = 2 by rw [show Int.tdiv 6 3 = 2 from rfl]; exact w64' (by omega) (by omega), w64' (by omega) (by omega)]; omega
    refine DR.bind (thread_dr hb s1 _ pl (by omega) (by omega) hpl hd.1 hd.2) ?_
    intro t s2 g2 g3 ht
    dsimp only
    rw [w64' (x := M - ((j + 1 : Nat) : Int) + 1) (by omega) (by omega), show M - ((j + 1 : Nat) : Int) + 1 = M - (j : Int) by omega]
    refine (prog_l1 b hb M pl hM hpl j (p ++ [t]) s2 (by omega) (by simp; omega) ?_ (by omega) (by omega)).more (by omega) (fun q hq => ⟨by have := hq.1; simp at this; omega, hq.2⟩)
    intro x hx
    rcases List.mem_append.1 hx with h | h
    · exact hp x h
    · simp at h; subst h; omega
theorem body_dr {b : List Int} (hb : Rd b) (s pl c : Int) (h0 : 0 ≤ s) (h1 : s ≤ 500000) (hpl : 1 ≤ pl) : DR (fun k => spec_l71Prog.body k pl c b s) s 130 (fun p => 2 ≤ p.length ∧ p.length ≤ 3 ∧ ∀ t ∈ p, t.length ≤ 20) := by
  unfold spec_l71Prog.body
  by_cases hc : c = 0
  · simp only [if_pos hc]
    refine (DR.bind (c := 6) (c' := 9) (reader_dr hb s 2 h0 (by omega) (by omega)) ?_).more (by omega) (fun _ h => h)
    intro r s1 g0 g1 hr
    refine (DR.bind (c := 5) (c' := 4) (waiter_dr hb s1 2 (by omega) (by omega) (by omega)) ?_).more (by omega) (fun _ h => h)
    intro t s2 g2 g3 ht
    refine (DR.bind (c := 1) (c' := 3) (pick_dr hb s2 3 (by omega) (by omega) (by omega)) ?_).more (by omega) (fun _ h => h)
    intro d s3 g4 g5 _
    dsimp only
    by_cases hd : d = 0
    · simp only [if_pos hd, if_pos (show r.length < 1000 by omega)]
      obtain ⟨x, y, z, s', e, e0, e1⟩ := do_dr hb s3 2 (by omega) (by omega) (by omega)
      refine DR.ev e ?_
      refine ⟨_, s', Ev.const, by omega, by omega, by simp, by simp, ?_⟩
      intro q hq
      simp at hq
      rcases hq with rfl | rfl
      · simp; omega
      · omega
    · simp only [if_neg hd]
      refine ⟨_, s3, Ev.const, by omega, by omega, by simp, by simp, ?_⟩
      intro q hq
      simp at hq
      rcases hq with rfl | rfl <;> omega
  · simp only [if_neg hc]
    refine (DR.bind (c := 1) (c' := 120) (pick_dr hb s 2 h0 (by omega) (by omega)) ?_).more (by omega) (fun _ h => h)
    intro m s1 g0 g1 ⟨m0, m1⟩
    dsimp only
    rw [w64' (by omega) (by omega)]
    obtain ⟨j, hj⟩ := Int.eq_ofNat_of_zero_le (show 0 ≤ 2 + m by omega)
    have := prog_l1 b hb (2 + m) pl (by omega) hpl j [] s1 (by omega) (by simp; omega) (by simp) (by omega) (by omega)
    rw [show 2 + m - (j : Int) = 0 by omega] at this
    exact this.more (by omega) (fun q hq => ⟨by have := hq.1; simp at this; omega, by have := hq.1; simp at this; omega, hq.2⟩)
theorem prog_l0 (b : List Int) (hb : Rd b) : ∀ (j : Nat) (s : Int), (j : Int) ≤ 12 → 0 ≤ s → s + 200 * (j : Int) ≤ 400000 → DR (fun k => spec_l71Prog.l0 k (12 - (j : Int)) b s) s (200 * (j : Int)) (fun p => 1 ≤ p.length ∧ p.length ≤ 3 ∧ ∀ t ∈ p, t.length ≤ 20)
  | 0, s, _, _, _ => by
    refine DR.succ ?_
    simp only [spec_l71Prog.l0, if_neg (show ¬ (12 : Int) - ((0 : Nat) : Int) < 12 by omega)]
    exact DR.ret (by omega) ⟨by simp, by simp, by simp⟩
  | j + 1, s, hj, h0, h1 => by
    refine DR.succ ?_
    simp only [spec_l71Prog.l0, if_pos (show (12 : Int) - ((j + 1 : Nat) : Int) < 12 by omega)]
    refine (DR.bind (c := 1) (c' := 150 + 200 * (j : Int)) (pick_dr hb s 2 h0 (by omega) (by omega)) ?_).more (by omega) (fun _ h => h)
    intro a s1 g0 g1 ⟨a0, a1⟩
    refine (DR.bind (c := 1) (c' := 140 + 200 * (j : Int)) (pick_dr hb s1 4 (by omega) (by omega) (by omega)) ?_).more (by omega) (fun _ h => h)
    intro c s2 g2 g3 _
    dsimp only
    rw [w64' (x := 1 + a) (by omega) (by omega)]
    refine (DR.bind (c := 130) (c' := 200 * (j : Int)) (body_dr hb s2 (1 + a) c (by omega) (by omega) (by omega)) ?_).more (by omega) (fun _ h => h)
    intro p s3 g4 g5 hp
    have hs : Short p := ⟨by omega, fun t ht => by have := hp.2.2 t ht; omega⟩
    dsimp only
    refine DR.ev (sProg p hs) ?_
    rw [w64' (x := 12 - ((j + 1 : Nat) : Int) + 1) (by omega) (by omega), show (12 : Int) - ((j + 1 : Nat) : Int) + 1 = 12 - (j : Int) by omega]
    have next := prog_l0 b hb j s3 (by omega) (by omega) (by omega)
    cases okP p
    · simp only [Bool.false_eq_true, if_false]
      exact next
    · simp only [if_true]
      obtain ⟨m, e⟩ := steps_ev p hs
      refine DR.ev e ?_
      by_cases hm : m ≤ 8
      · simp only [if_pos hm]
        exact ⟨p, s3, Ev.const, by omega, by omega, by omega, hp.2.1, hp.2.2⟩
      · simp only [if_neg hm]
        exact next
theorem prog_dr {b : List Int} (hb : Rd b) (s : Int) (h0 : 0 ≤ s) (h1 : s ≤ 300000) : DR (fun k => spec_l71Prog.f k b s) s 2400 (fun p => 1 ≤ p.length ∧ p.length ≤ 3 ∧ ∀ t ∈ p, t.length ≤ 20) := by
  have := prog_l0 b hb 12 s (by omega) h0 (by omega)
  exact this
theorem bad_l0 (b : List Int) (hb : Rd b) : ∀ (j : Nat) (y : List S85) (s : Int), (j : Int) ≤ 7 → y.length + j ≤ 1000 → 0 ≤ s → s + (j : Int) ≤ 600000 → DR (fun k => spec_l71Bad.l0 k y (7 - (j : Int)) b s) s (j : Int) (fun t => t.length ≤ y.length + j)
  | 0, y, s, _, _, _, _ => by
    refine DR.succ ?_
    simp only [spec_l71Bad.l0, if_neg (show ¬ (7 : Int) - ((0 : Nat) : Int) < 7 by omega)]
    exact DR.ret (by omega) (by omega)
  | j + 1, y, s, hj, hl, h0, h1 => by
    refine DR.succ ?_
    simp only [spec_l71Bad.l0, if_pos (show (7 : Int) - ((j + 1 : Nat) : Int) < 7 by omega)]
    refine (DR.bind (c := 1) (c' := (j : Int)) (pick_dr hb s 2 h0 (by omega) (by omega)) ?_).more (by omega) (fun _ h => h)
    intro r s1 g0 g1 ⟨r0, r1⟩
    simp only [if_pos r0, if_pos (show r < (([4, 2] : List Int).length : Int) from r1), if_pos (show y.length < 5864062014805 by omega)]
    rw [w64' (by omega) (by omega), show (7 : Int) - ((j + 1 : Nat) : Int) + 1 = 7 - (j : Int) by omega]
    exact (bad_l0 b hb j _ s1 (by omega) (by simp; omega) (by omega) (by omega)).more (by omega) (fun t h => by simp at h; omega)
theorem arm_dr {b : List Int} (hb : Rd b) (y : List S85) (c s : Int) (hy : y.length ≤ 20) (h0 : 0 ≤ s) (h1 : s ≤ 500000) : DR (fun k => spec_l71Bad.arm k y c b s) s 10 (fun t => t.length ≤ 30) := by
  have hl : y.length < 5864062014805 := by omega
  have hl1 : ∀ d : S85, ([d] : List S85).length + y.length < 5864062014805 := fun d => by simp; omega
  have one : ∀ d : S85, (y ++ [d]).length ≤ 30 := fun d => by simp; omega
  have one' : ∀ d : S85, ([d] ++ y).length ≤ 30 := fun d => by simp; omega
  unfold spec_l71Bad.arm
  by_cases c0 : c = 0
  · simp only [if_pos c0, if_pos hl]
    refine (DR.bind (c := 1) (c' := 0) (pick_dr hb s 12 h0 (by omega) (by omega)) ?_).more (by omega) (fun _ h => h)
    intro r s1 g0 g1 _
    exact DR.ret (by omega) (one _)
  simp only [if_neg c0]
  by_cases c1 : c = 1
  · simp only [if_pos c1, if_pos (hl1 _)]
    exact DR.ret (by omega) (one' _)
  simp only [if_neg c1]
  by_cases c2 : c = 2
  · simp only [if_pos c2, if_pos hl]
    exact DR.ret (by omega) (one _)
  simp only [if_neg c2]
  by_cases c3 : c = 3
  · simp only [if_pos c3, if_pos (hl1 _)]
    exact DR.ret (by omega) (one' _)
  simp only [if_neg c3]
  by_cases c4 : c = 4
  · simp only [if_pos c4, if_pos hl]
    refine (DR.bind (c := 1) (c' := 0) (pick_dr hb s 2 h0 (by omega) (by omega)) ?_).more (by omega) (fun _ h => h)
    intro r s1 g0 g1 ⟨r0, r1⟩
    simp only [if_pos r0, if_pos (show r < (([(-1), 3] : List Int).length : Int) from r1)]
    exact DR.ret (by omega) (one _)
  simp only [if_neg c4]
  by_cases c5 : c = 5
  · simp only [if_pos c5, if_pos hl]
    refine (DR.bind (c := 1) (c' := 0) (pick_dr hb s 2 h0 (by omega) (by omega)) ?_).more (by omega) (fun _ h => h)
    intro r s1 g0 g1 ⟨r0, r1⟩
    simp only [if_pos r0, if_pos (show r < (([0, 4] : List Int).length : Int) from r1)]
    exact DR.ret (by omega) (one _)
  simp only [if_neg c5]
  by_cases c6 : c = 6
  · simp only [if_pos c6]
    exact (bad_l0 b hb 7 y s (by omega) (by omega) h0 (by omega)).more (by omega) (fun t h => by omega)
  simp only [if_neg c6, if_pos hl]
  exact DR.ret (by omega) (one _)
theorem bad_dr {b : List Int} (hb : Rd b) (s : Int) (p : List (List S85)) (hp : 1 ≤ p.length ∧ p.length ≤ 3 ∧ ∀ t ∈ p, t.length ≤ 20) (h0 : 0 ≤ s) (h1 : s ≤ 400000) : DR (fun k => spec_l71Bad.f k b s p) s 12 Good := by
  unfold spec_l71Bad.f
  refine (DR.bind (c := 1) (c' := 11) (pick_dr hb s (p.length : Int) h0 (by omega) (by omega)) ?_).more (by omega) (fun _ h => h)
  intro i s1 g0 g1 ⟨i0, i1⟩
  obtain ⟨n, rfl⟩ := Int.eq_ofNat_of_zero_le i0
  have hn : n < p.length := by omega
  have hl : p[n].length ≤ 20 := hp.2.2 _ (List.getElem_mem hn)
  simp only [rd_L7_get hn, if_pos i0, if_pos i1, List.length_nil, Nat.zero_add, List.nil_append, if_pos (show p[n].length < 5864062014805 by omega)]
  refine (DR.bind (c := 1) (c' := 10) (pick_dr hb s1 8 (by omega) (by omega) (by omega)) ?_).more (by omega) (fun _ h => h)
  intro c s2 g2 g3 _
  dsimp only
  refine (DR.bind (c := 10) (c' := 0) (arm_dr hb _ c s2 hl (by omega) (by omega)) ?_).more (by omega) (fun _ h => h)
  intro t s3 g4 g5 ht
  dsimp only
  refine DR.ev (a := p.set n t) ?_ ?_
  · unfold spec_l71Bad.tail
    simp only [List.nil_append, List.length_nil, Nat.zero_add, if_pos (show p.length < 5864062014805 by omega), if_pos i1, Int.toNat_natCast]
    exact Ev.const
  · refine DR.ret (by omega) ⟨by simp; omega, by simp; omega, fun x hx => ?_⟩
    rcases List.mem_or_eq_of_mem_set hx with h | h
    · have := hp.2.2 x h; omega
    · subst h; exact ht
theorem any_dr {b : List Int} (hb : Rd b) (s : Int) (h0 : 0 ≤ s) (h1 : s ≤ 200000) : DR (fun k => spec_l71Any.f k b s) s 3000 Good := by
  unfold spec_l71Any.f
  refine (DR.bind (c := 2400) (c' := 13) (prog_dr hb s h0 (by omega)) ?_).more (by omega) (fun _ h => h)
  intro p s1 g0 g1 hp
  refine (DR.bind (c := 1) (c' := 12) (pick_dr hb s1 16 (by omega) (by omega) (by omega)) ?_).more (by omega) (fun _ h => h)
  intro r s2 g2 g3 _
  dsimp only
  by_cases h : r = 0
  · simp only [if_pos h]
    refine (DR.bind (c := 12) (c' := 0) (bad_dr hb s2 p hp (by omega) (by omega)) ?_).more (by omega) (fun _ h => h)
    intro q s3 g4 g5 hq
    exact DR.ret (by omega) hq
  · simp only [if_neg h]
    exact DR.ret (by omega) ⟨hp.1, hp.2.1, fun t ht => by have := hp.2.2 t ht; omega⟩
end Go.Proofs.Ytefkbmhkhpekjaa.Pure

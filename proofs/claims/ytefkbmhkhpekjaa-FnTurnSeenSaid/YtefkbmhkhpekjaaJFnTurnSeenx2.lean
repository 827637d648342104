-- Joined by wip/mclaim.py out of YtefkbmhkhpekjaaDrawProg, YtefkbmhkhpekjaaDrawAny, YtefkbmhkhpekjaaDrawSeen, YtefkbmhkhpekjaaRowOk, YtefkbmhkhpekjaaPBx96, YtefkbmhkhpekjaaRowDraw, YtefkbmhkhpekjaaReadsProg, YtefkbmhkhpekjaaPBx132, YtefkbmhkhpekjaaPBx117, YtefkbmhkhpekjaaPBx79, YtefkbmhkhpekjaaPBx32, YtefkbmhkhpekjaaPBx119
import Derived.Test.YtefkbmhkhpekjaaJFnTurnSeenx4
import Derived.Test.YtefkbmhkhpekjaaJFnTurnSeenyPBx123
import Derived.Test.YtefkbmhkhpekjaaJFnTurnSeenx3
import Derived.Deep.RegionLaw
import Derived.Test.YtefkbmhkhpekjaaPBx97
import Derived.Test.YtefkbmhkhpekjaaPBx100
import Derived.Test.YtefkbmhkhpekjaaPBx0
import Derived.Test.YtefkbmhkhpekjaaPBx101
import Derived.Test.YtefkbmhkhpekjaaJFnTurnSeenx5
namespace Go.Proofs.Ytefkbmhkhpekjaa.Pure
open Go.RowKit Go.Proofs.Ytefkbmhkhpekjaa.PB Go.Proofs.YtefkbmhkhpekjaaW.PrintWords Go.Proofs.YtefkbmhkhpekjaaW.PrintLast
set_option linter.unusedVariables false

theorem reader_dr {b : List Int} (hb : Rd b) (s n : Int) (h0 : 0 ≤ s) (h1 : s ≤ 700000) (hn : 1 ≤ n) : DR (fun k => spec_l71Reader.f k b s n) s 6 (fun t => t.length ≤ 10) := by
  unfold spec_l71Reader.f
  refine (DR.bind (c := 1) (c' := 5) (pick_dr hb s n h0 (by omega) hn) ?_).more (by omega) (fun _ h => h)
  intro r1 s1 g0 g1 _
  refine (DR.bind (c := 1) (c' := 4) (pick_dr hb s1 n (by omega) (by omega) hn) ?_).more (by omega) (fun _ h => h)
  intro r2 s2 g2 g3 _
  simp only [Option.bind_some]
  refine (DR.bind (c := 1) (c' := 3) (pick_dr hb s2 3 (by omega) (by omega) (by omega)) ?_).more (by omega) (fun _ h => h)
  intro r3 s3 g4 g5 _
  by_cases h : r3 = 0
  · simp only [if_pos h]
    obtain ⟨x, y, z, s', e, e0, e1⟩ := do_dr hb s3 n (by omega) (by omega) hn
    refine DR.ev e ?_
    simp only [if_pos (show (2 : Int) < ((([(⟨7, 0, 0⟩ : S85), (⟨2, r1, 0⟩ : S85), (⟨2, r2, 0⟩ : S85), (⟨8, 0, 0⟩ : S85)] : List S85)).length : Int) by simp)]
    exact ⟨_, s', Ev.const, by omega, by omega, by simp⟩
  · simp only [if_neg h]
    exact DR.ret (by omega) (by simp)
theorem waiter_dr {b : List Int} (hb : Rd b) (s n : Int) (h0 : 0 ≤ s) (h1 : s ≤ 700000) (hn : 1 ≤ n) : DR (fun k => spec_l71Waiter.f k b s n) s 5 (fun t => t.length ≤ 10) := by
  unfold spec_l71Waiter.f
  refine (DR.bind (c := 1) (c' := 4) (pick_dr hb s n h0 (by omega) hn) ?_).more (by omega) (fun _ h => h)
  intro r1 s1 g0 g1 _
  refine (DR.bind (c := 1) (c' := 3) (pick_dr hb s1 2 (by omega) (by omega) (by omega)) ?_).more (by omega) (fun _ h => h)
  intro r2 s2 g2 g3 _
  simp only [Option.bind_some]
  refine (DR.bind (c := 1) (c' := 2) (pick_dr hb s2 2 (by omega) (by omega) (by omega)) ?_).more (by omega) (fun _ h => h)
  intro r3 s3 g4 g5 ⟨q0, q1⟩
  simp only [if_pos q0, if_pos (show r3 < (([1, 6] : List Int).length : Int) from q1)]
  refine (DR.bind (c := 1) (c' := 1) (pick_dr hb s3 n (by omega) (by omega) hn) ?_).more (by omega) (fun _ h => h)
  intro r4 s4 g6 g7 _
  refine (DR.bind (c := 1) (c' := 0) (pick_dr hb s4 2 (by omega) (by omega) (by omega)) ?_).more (by omega) (fun _ h => h)
  intro r5 s5 g8 g9 _
  exact DR.ret (by omega) (by simp)
/-- A drawn program. -/
def Good (p : List (List S85)) : Prop := 1 ≤ p.length ∧ p.length ≤ 3 ∧ ∀ t ∈ p, t.length ≤ 30
theorem Good.short {p : List (List S85)} (h : Good p) : Short p := ⟨by have := h.2.1; omega, fun t ht => by have := h.2.2 t ht; omega⟩
theorem stepsL (p : List (List S85)) (hp : Short p) : ∀ (m : Nat) (n : Int), m ≤ p.length → 0 ≤ n → n + 1048576 * (m : Int) ≤ 100000000000 → ∃ r, Ev (fun k => spec_l71Steps.l0 k n ((p.length - m : Nat) : Int) p) r
  | 0, n, _, _, _ => by
    refine ⟨n, Ev.succ (Ev.now fun k => ?_)⟩
    simp only [spec_l71Steps.l0, Nat.sub_zero, Int.lt_irrefl, if_false]
  | m + 1, n, hm, h0, h1 => by
    have hlt : p.length - (m + 1) < p.length := by omega
    have hl := hp.at hlt
    have hp1 := hp.1
    obtain ⟨r, e⟩ := stepsL p hp m (n + (p[p.length - (m + 1)].length : Int)) (by omega) (by omega) (by omega)
    refine ⟨r, Ev.succ ?_⟩
    simp only [spec_l71Steps.l0, rd_L7_get hlt, if_pos (show ((p.length - (m + 1) : Nat) : Int) < (p.length : Int) by omega), if_pos (show (0 : Int) ≤ ((p.length - (m + 1) : Nat) : Int) by omega)]
    rw [w64' (by omega) (by omega), w64' (by omega) (by omega), show ((p.length - (m + 1) : Nat) : Int) + 1 = ((p.length - m : Nat) : Int) by omega]
    exact e
theorem steps_ev (p : List (List S85)) (hp : Short p) : ∃ r, Ev (fun k => spec_l71Steps.f k p) r := by
  have := stepsL p hp p.length 0 (Nat.le_refl _) (by omega) (by have := hp.1; omega)
  rw [Nat.sub_self] at this
  exact this
theorem prog_l1 (b : List Int) (hb : Rd b) (M pl : Int) (hM : M = 2 ∨ M = 3) (hpl : 1 ≤ pl) : ∀ (j : Nat) (p : List (List S85)) (s : Int), (j : Int) ≤ M → p.length + j ≤ 3 → (∀ t ∈ p, t.length ≤ 20) → 0 ≤ s → s + 40 * (j : Int) ≤ 600000 →
    DR (fun k => spec_l71Prog.l1 k M (M - j) pl p b s) s (40 * (j : Int)) (fun q => q.length = p.length + j ∧ ∀ t ∈ q, t.length ≤ 20)
  | 0, p, s, _, _, hp, _, _ => by
    refine DR.succ ?_
    simp only [spec_l71Prog.l1, if_neg (show ¬ M - ((0 : Nat) : Int) < M by omega)]
    exact DR.ret (by omega) ⟨by omega, hp⟩
  | j + 1, p, s, hj, hl, hp, h0, h1 => by
    refine DR.succ ?_
    simp only [spec_l71Prog.l1, if_pos (show M - ((j + 1 : Nat) : Int) < M by omega), if_neg (show ¬ M = 0 by omega), if_pos (show p.length < 1000 by omega)]
    refine (DR.bind (c := 1) (c' := 31 + 40 * (j : Int)) (pick_dr hb s 2 h0 (by omega) (by omega)) ?_).more (by omega) (fun _ h => h)
    intro r s1 g0 g1 ⟨r0, r1⟩
    have hd : 0 ≤ wrap64 (wrap64 (Int.tdiv 6 M) + r) ∧ wrap64 (wrap64 (Int.tdiv 6 M) + r) ≤ 10 := by
      rcases hM with rfl | rfl
      · rw [show wrap64 (Int.tdiv 6 2) = 3 by rw [show Int.tdiv 6 2 = 3 from rfl]; exact w64' (by omega) (by omega), w64' (by omega) (by omega)]; omega
      · rw [show wrap64 (Int.tdiv 6 3) = 2 by rw [show Int.tdiv 6 3 = 2 from rfl]; exact w64' (by omega) (by omega), w64' (by omega) (by omega)]; omega
    refine DR.bind (thread_dr hb s1 _ pl (by omega) (by omega) hpl hd.1 hd.2) ?_
    intro t s2 g2 g3 ht
    dsimp only
    rw [w64' (x := M - ((j + 1 : Nat) : Int) + 1) (by omega) (by omega), show M - ((j + 1 : Nat) : Int) + 1 = M - (j : Int) by omega]
    refine (prog_l1 b hb M pl hM hpl j (p ++ [t]) s2 (by omega) (by simp; omega) ?_ (by omega) (by omega)).more (by omega) (fun q hq => ⟨by have := hq.1; simp at this; omega, hq.2⟩)
    intro x hx
    rcases List.mem_append.1 hx with h | h
    · exact hp x h
    · simp at h; subst h; omega
theorem body_dr {b : List Int} (hb : Rd b) (s pl c : Int) (h0 : 0 ≤ s) (h1 : s ≤ 500000) (hpl : 1 ≤ pl) : DR (fun k => spec_l71Prog.body k pl c b s) s 130 (fun p => 2 ≤ p.length ∧ p.length ≤ 3 ∧ ∀ t ∈ p, t.length ≤ 20) := by
  unfold spec_l71Prog.body
  by_cases hc : c = 0
  · simp only [if_pos hc]
    refine (DR.bind (c := 6) (c' := 9) (reader_dr hb s 2 h0 (by omega) (by omega)) ?_).more (by omega) (fun _ h => h)
    intro r s1 g0 g1 hr
    refine (DR.bind (c := 5) (c' := 4) (waiter_dr hb s1 2 (by omega) (by omega) (by omega)) ?_).more (by omega) (fun _ h => h)
    intro t s2 g2 g3 ht
    refine (DR.bind (c := 1) (c' := 3) (pick_dr hb s2 3 (by omega) (by omega) (by omega)) ?_).more (by omega) (fun _ h => h)
    intro d s3 g4 g5 _
    dsimp only
    by_cases hd : d = 0
    · simp only [if_pos hd, if_pos (show r.length < 1000 by omega)]
      obtain ⟨x, y, z, s', e, e0, e1⟩ := do_dr hb s3 2 (by omega) (by omega) (by omega)
      refine DR.ev e ?_
      refine ⟨_, s', Ev.const, by omega, by omega, by simp, by simp, ?_⟩
      intro q hq
      simp at hq
      rcases hq with rfl | rfl
      · simp; omega
      · omega
    · simp only [if_neg hd]
      refine ⟨_, s3, Ev.const, by omega, by omega, by simp, by simp, ?_⟩
      intro q hq
      simp at hq
      rcases hq with rfl | rfl <;> omega
  · simp only [if_neg hc]
    refine (DR.bind (c := 1) (c' := 120) (pick_dr hb s 2 h0 (by omega) (by omega)) ?_).more (by omega) (fun _ h => h)
    intro m s1 g0 g1 ⟨m0, m1⟩
    dsimp only
    rw [w64' (by omega) (by omega)]
    obtain ⟨j, hj⟩ := Int.eq_ofNat_of_zero_le (show 0 ≤ 2 + m by omega)
    have := prog_l1 b hb (2 + m) pl (by omega) hpl j [] s1 (by omega) (by simp; omega) (by simp) (by omega) (by omega)
    rw [show 2 + m - (j : Int) = 0 by omega] at this
    exact this.more (by omega) (fun q hq => ⟨by have := hq.1; simp at this; omega, by have := hq.1; simp at this; omega, hq.2⟩)
theorem prog_l0 (b : List Int) (hb : Rd b) : ∀ (j : Nat) (s : Int), (j : Int) ≤ 12 → 0 ≤ s → s + 200 * (j : Int) ≤ 400000 → DR (fun k => spec_l71Prog.l0 k (12 - (j : Int)) b s) s (200 * (j : Int)) (fun p => 1 ≤ p.length ∧ p.length ≤ 3 ∧ ∀ t ∈ p, t.length ≤ 20)
  | 0, s, _, _, _ => by
    refine DR.succ ?_
    simp only [spec_l71Prog.l0, if_neg (show ¬ (12 : Int) - ((0 : Nat) : Int) < 12 by omega)]
    exact DR.ret (by omega) ⟨by simp, by simp, by simp⟩
  | j + 1, s, hj, h0, h1 => by
    refine DR.succ ?_
    simp only [spec_l71Prog.l0, if_pos (show (12 : Int) - ((j + 1 : Nat) : Int) < 12 by omega)]
    refine (DR.bind (c := 1) (c' := 150 + 200 * (j : Int)) (pick_dr hb s 2 h0 (by omega) (by omega)) ?_).more (by omega) (fun _ h => h)
    intro a s1 g0 g1 ⟨a0, a1⟩
    refine (DR.bind (c := 1) (c' := 140 + 200 * (j : Int)) (pick_dr hb s1 4 (by omega) (by omega) (by omega)) ?_).more (by omega) (fun _ h => h)
    intro c s2 g2 g3 _
    dsimp only
    rw [w64' (x := 1 + a) (by omega) (by omega)]
    refine (DR.bind (c := 130) (c' := 200 * (j : Int)) (body_dr hb s2 (1 + a) c (by omega) (by omega) (by omega)) ?_).more (by omega) (fun _ h => h)
    intro p s3 g4 g5 hp
    have hs : Short p := ⟨by omega, fun t ht => by have := hp.2.2 t ht; omega⟩
    dsimp only
    refine DR.ev (sProg p hs) ?_
    rw [w64' (x := 12 - ((j + 1 : Nat) : Int) + 1) (by omega) (by omega), show (12 : Int) - ((j + 1 : Nat) : Int) + 1 = 12 - (j : Int) by omega]
    have next := prog_l0 b hb j s3 (by omega) (by omega) (by omega)
    cases okP p
    · simp only [Bool.false_eq_true, if_false]
      exact next
    · simp only [if_true]
      obtain ⟨m, e⟩ := steps_ev p hs
      refine DR.ev e ?_
      by_cases hm : m ≤ 8
      · simp only [if_pos hm]
        exact ⟨p, s3, Ev.const, by omega, by omega, by omega, hp.2.1, hp.2.2⟩
      · simp only [if_neg hm]
        exact next
theorem prog_dr {b : List Int} (hb : Rd b) (s : Int) (h0 : 0 ≤ s) (h1 : s ≤ 300000) : DR (fun k => spec_l71Prog.f k b s) s 2400 (fun p => 1 ≤ p.length ∧ p.length ≤ 3 ∧ ∀ t ∈ p, t.length ≤ 20) := by
  have := prog_l0 b hb 12 s (by omega) h0 (by omega)
  exact this
end Go.Proofs.Ytefkbmhkhpekjaa.Pure

namespace Go.Proofs.Ytefkbmhkhpekjaa.PB
open Go.RowKit Go.Proofs.YtefkbmhkhpekjaaW.PrintWords Go.Proofs.YtefkbmhkhpekjaaW.PrintLast Go.Proofs.YtefkbmhkhpekjaaW.PrintMore Go.Proofs.YtefkbmhkhpekjaaMine Go.Proofs.Ytefkbmhkhpekjaa.Pure
set_option linter.unusedVariables false
set_option linter.unusedSimpArgs false
set_option maxHeartbeats 8000000 in
set_option maxRecDepth 100000 in
theorem any_dw {w0 w : World} {g m : Nat} {b : List Int} (hb : Rd b) (hm : m ≤ 200000) (D : Dw w0 w w g b m) :
    Calls Try.prog 92 #[.pointer (some ⟨g, 0, none⟩)] w fun e w' => ∃ (v : Value) (q : List (List S85)), e = .returned (.agg #[v]) ∧ Pure.Good q ∧
      Kd.N (Kd.slice 85 k85) 82 w' w.heap.size (fun k => w.heap.size ≤ k ∧ k ≠ g) v q ∧ Dw w0 w w' g b (m + 2500) := by
  obtain ⟨s, hi, h0, h1⟩ := D.st
  obtain ⟨p, s1, ⟨K, hK⟩, g0, g1, hp⟩ := prog_dr hb s h0 (by omega)
  have HK := am_ (hK K (Nat.le_refl _))
  have HI := am_ hi
  have HG := am_ D.lt
  have HP := am_ hp
  have DD := am_ D
  have HS := am_ (show 0 ≤ s1 ∧ s1 ≤ (m : Int) + 2400 by omega)
  clear hK hi hp D h0 h1 g0 g1
  go_enter Try.func92, Try.ntmps92
  go_wp2_with (go_at_call 123; refine park ?_)
  refine ⟨?_⟩
  refine (spec_l71Prog.calls K g b s p s1 w0 _ (HI.out.alloc (.cells #[.slice none 0 0] 35)) (DD.out.alloc (.cells #[.slice none 0 0] 35)).be HK.out).mono ?_
  rintro e W1 ⟨v0, rfl, hS, hi, hbe, hk⟩
  rw [World.size_alloc] at hS
  obtain ⟨A, c, rfl⟩ := Kd.S_slice hS
  have B1 := am_ (kB hk (heap_alloc_new w (.cells #[.slice none 0 0] 35)) HG.out)
  have D1 := am_ (show Dw w0 w W1 g b (m + 2400) from ⟨⟨s1, hi, HS.out.1, by have := HS.out; omega⟩, hbe, (keep_alloc (KeepBut.refl _ _ _) _).trans hk (.inl rfl)⟩)
  have LT := am_ (blk_lt B1.out)
  have N1 := am_ (show Kd.N (Kd.slice 85 k85) 82 (W1.alloc (.cells #[.slice A p.length c] 35)) w.heap.size (fun k => w.heap.size + 1 ≤ k ∧ k ≠ g) (.slice A p.length c) p from
    Kd.N_alloc (Kd.N_lower (Kd.N_mono (Kd.S_N (Kd.S_bound hS)) (fun k h => ⟨h.2.1, by have := HG.out; have := h.2.1; omega⟩)) (by omega)) _)
  have D2 := am_ (D1.out.alloc (.cells #[.slice A p.length c] 35))
  have B2 := am_ (blk_alloc B1.out (.cells #[.slice A p.length c] 35))
  have B3 := am_ (heap_alloc_new W1 (.cells #[.slice A p.length c] 35))
  have LT2 := am_ (show w.heap.size < W1.heap.size from LT.out)
  clear hS hi hbe hk B1 D1 HI DD HK LT
  go_wp2_with (go_at_call 71; refine park ?_)
  refine ⟨?_⟩
  refine (pick_dw 16 (by decide) hb.len hb.u8 (by omega) D2.out).mono ?_
  rintro e W3 ⟨x, rfl, hx0, hx1, hD, hk⟩
  have D3 := am_ hD
  have N3 := am_ (Kd.N_keep N1.out hk (fun k h => h.2))
  have C2 := am_ (kB hk B2.out HG.out)
  have C3 := am_ (kB hk B3.out (by have := HG.out; have := LT2.out; omega))
  generalize W1.heap.size = gp at *
  clear hx0 hx1 hD hk D2 N1 B2 B3
  have q0 := cf0 C3.out
  have q1 := cf0 C2.out
  have q2 := blk_frozen C2.out 0
  by_cases h : x = 0
  · have t0 : (x == 0) = true := by simpa using h
    clear h
    go_wp2_with (go_at_call 124; refine park ?_)
    clear q0 q1 q2
    refine ⟨?_⟩
    refine (bad_dw p A c (fun k => w.heap.size + 1 ≤ k) HP.out hb.len hb.u8 (by omega) D3.out.here (Kd.V_mono (Kd.N_V (Kd.N_bound N3.out)) (fun k h => ⟨h.1.1, h.1.2, h.2⟩))).mono ?_
    rintro e W4 ⟨v, q, rfl, hq, hN, hD⟩
    obtain ⟨A4, c4, rfl⟩ := Kd.N_slice hN
    have D4 := am_ (D3.out.then hD)
    have N4 := am_ (Kd.N_lower (Kd.N_mono (ok' := fun k => w.heap.size + 1 ≤ k ∧ k ≠ g) hN (fun k h => ⟨by have := D3.out.sz; have := blk_lt C2.out; rcases h.1 with h | h <;> omega, h.2⟩)) D3.out.sz)
    have E2 := am_ (kB hD.ke C2.out HG.out)
    have HQ := am_ hq
    clear hN hD hq D3 N3 C2 C3
    have q1 := cf0 E2.out
    have q2 := blk_frozen E2.out 0
    go_wp2_with fail
    refine bodyPost_ret (results_cell_row rfl _ _ w.heap.size 35 #[.slice A4 q.length c4] (0, 0) _ rfl (blk_set E2.out 0 _) Try.underlying35 rfl (by kernel_rfl)) rfl ?_
    exact ⟨_, q, rfl, HQ.out, Kd.N_mono (Kd.N_far (p := ⟨w.heap.size, 0, none⟩) N4.out (fun k h => by have := h.1; show k ≠ w.heap.size; omega) _) (fun k h => ⟨by have := h.1; omega, h.2⟩), (D4.out.set HG.out ⟨w.heap.size, 0, none⟩ _ (Nat.le_refl _)).more (by omega)⟩
  · have t0 : (x == 0) = false := by simpa using h
    clear h
    go_wp2_with fail
    refine bodyPost_ret (results_cell_row rfl _ _ w.heap.size 35 #[.slice A p.length c] (0, 0) _ rfl (blk_set C2.out 0 _) Try.underlying35 rfl (by kernel_rfl)) rfl ?_
    exact ⟨_, p, rfl, ⟨HP.out.1, HP.out.2.1, fun t ht => by have := HP.out.2.2 t ht; omega⟩, Kd.N_mono (Kd.N_far (p := ⟨w.heap.size, 0, none⟩) N3.out (fun k h => by have := h.1; show k ≠ w.heap.size; omega) _) (fun k h => ⟨by have := h.1; omega, h.2⟩), (D3.out.set HG.out ⟨w.heap.size, 0, none⟩ _ (Nat.le_refl _)).more (by omega)⟩
end Go.Proofs.Ytefkbmhkhpekjaa.PB

namespace Go.Proofs.Ytefkbmhkhpekjaa.PB
open Go.RowKit Go.Proofs.YtefkbmhkhpekjaaW.PrintWords Go.Proofs.YtefkbmhkhpekjaaW.PrintLast Go.Proofs.YtefkbmhkhpekjaaW.PrintMore Go.Proofs.YtefkbmhkhpekjaaMine
set_option linter.unusedVariables false
set_option linter.unusedSimpArgs false
def tz (x : Int) : Int := if x = 0 then -1 else 4
theorem tw (x : Int) (h0 : 0 ≤ x) (h1 : x < 2) : (#[Value.int .i64 (-1), .int .i64 4] : Array Value)[x.toNat]? = some (.int .i64 (tz x)) := by
  obtain rfl | rfl : x = 0 ∨ x = 1 := by omega
  · rfl
  · rfl
theorem fin_ {w : World} {base B : Nat} {P P2 : Nat → Prop} {u u2 : Value} {a d : List Int} (h : Kd.R (Kd.int .i64) 3 w base P u a) (k : Kd.R (Kd.int .i64) 3 w B P2 u2 d) (hB : base ≤ B) (hd : ∀ k, P k → ¬ P2 k) :
    Kd.R (Kd.int .i64) 3 w base (fun k => some k ≠ u2.ownBlock) u a ∧ Kd.Q (Kd.int .i64) 3 w base (fun k => some k ≠ u.ownBlock) u2 d :=
  ⟨Kd.R_mono h (fun x hx e => hd x hx (k.1 x e.symm)), Kd.Q_of_R (Kd.R_mono (Kd.R_lower k hB) (fun x hx e => hd x (h.1 x e.symm) hx))⟩
set_option maxHeartbeats 8000000 in
set_option maxRecDepth 100000 in
theorem seen_dw {w0 w : World} {g m : Nat} {b : List Int} (p : List (List S85)) (A : Option Addr) (c : Nat) (n : Int) (hn : -1 ≤ n ∧ n ≤ 90) (hl : b.length ≤ 2000) (hu : ∀ x ∈ b, 0 ≤ x ∧ x ≤ 255) (hm : m ≤ 500000) (D : Dw w0 w w g b m)
    (hr : ∀ W, KeepBut w W g none → Kd.C (Kd.slice 85 k85) W A p.length p) (hc : p.length ≤ c)
    (hN : ∀ W, Kd.C (Kd.slice 85 k85) W A p.length p → Calls Try.prog 105 #[.agg #[.slice A p.length c]] W fun e W' => e = .returned (.int .i64 n) ∧ Below W.heap.size W W') :
    Calls Try.prog 103 #[.pointer (some ⟨g, 0, none⟩), .agg #[.slice A p.length c]] w fun e w' => ∃ (v0 v1 : Value) (a d : List Int), e = .returned (.agg #[v0, v1]) ∧ a.length ≤ 1001 ∧ d.length ≤ 3 ∧
      Kd.R (Kd.int .i64) 3 w' w.heap.size (fun k => some k ≠ v1.ownBlock) v0 a ∧ Kd.Q (Kd.int .i64) 3 w' w.heap.size (fun k => some k ≠ v0.ownBlock) v1 d ∧ Dw w0 w w' g b (m + 200) := by
  have DD := am_ D
  have HN := am_ hN
  have HR := am_ hr
  have HG := am_ D.lt
  clear D hr hN
  go_enter Try.func103, Try.ntmps103
  go_wp2_with (go_at_call 105; refine park ?_)
  refine ⟨?_⟩
  refine (HN.out _ (HR.out _ (keep_alloc (keep_alloc (keep_alloc (keep_alloc (KeepBut.refl _ _ _) _) _) _) _))).mono ?_
  rintro e W1 ⟨rfl, hb⟩
  have D1 := am_ ((((((DD.out).alloc _).alloc _).alloc _).alloc _).below hb)
  have z3 := blk_below (heap_alloc_new (((w.alloc (.cells #[.slice A p.length c] 35)).alloc (.cells #[.slice none 0 0, .slice none 0 0] 24)).alloc (.cells #[] 3)) (.cells #[.slice (some ⟨w.heap.size + 2, 0, none⟩) 0 0, .slice none 0 0] 24)) hb
  have z2 := blk_below (blk_alloc (blk_alloc (heap_alloc_new (w.alloc (.cells #[.slice A p.length c] 35)) (.cells #[.slice none 0 0, .slice none 0 0] 24)) (.cells #[] 3)) (.cells #[.slice (some ⟨w.heap.size + 2, 0, none⟩) 0 0, .slice none 0 0] 24)) hb
  have z1 : Kd.R (Kd.int .i64) 3 W1 w.heap.size (fun k => w.heap.size ≤ k) (.slice (some ⟨w.heap.size + 2, 0, none⟩) 0 0) [] := by
    have h := R_empty (Kd.int .i64) 3 ((w.alloc (.cells #[.slice A p.length c] 35)).alloc (.cells #[.slice none 0 0, .slice none 0 0] 24)) w.heap.size (fun k => w.heap.size ≤ k) (by simp; omega) (by simp; omega)
    rw [World.size_alloc, World.size_alloc] at h
    exact Kd.R_below (Kd.R_alloc h _) hb
  rw [World.size_alloc, World.size_alloc, World.size_alloc] at z3
  rw [World.size_alloc] at z2
  have B1 := am_ z2
  have B2 := am_ z3
  have R1 := am_ z1
  clear z1 z2 z3 hb DD HN HR
  go_wp2_with fail
  go_loopg [6] n.toNat (fun kq v6 W => ∃ (i : Int) (u : Value) (a : List Int), v6 = .int .i64 i ∧ Aside0 (kq ≤ 90 ∧ -1 ≤ i ∧ (i = kq ∨ kq = 0 ∧ i ≤ 0)) ∧ Aside0 (a.length + kq ≤ 900) ∧ Aside0 (Dw w0 w W g b (m + (90 - kq))) ∧
    Aside0 (Kd.R (Kd.int .i64) 3 W w.heap.size (fun k => w.heap.size ≤ k) u a) ∧ Aside0 (W.heap[w.heap.size + 1]? = some (.cells #[.slice none 0 0, .slice none 0 0] 24 (0, 0))) ∧ Aside0 (W.heap[w.heap.size + 3]? = some (.cells #[u, .slice none 0 0] 24 (0, 0))))
  case atStart => exact ⟨n, _, [], rfl, ⟨by omega⟩, ⟨by simp; omega⟩, ⟨D1.out.more (by omega)⟩, R1, B1, B2⟩
  case round =>
    obtain ⟨i, u, a, rfl, HI, HL, D2, R2, C1, C2⟩ := hrel
    clear D1 R1 B1 B2
    by_cases hi : i > 0
    · obtain ⟨k1, rfl⟩ : ∃ k, gk = k + 1 := ⟨gk - 1, by have := HI.out; omega⟩
      have hd : decide (0 < i) = true := decide_eq_true hi
      have HI1 := am_ hi
      clear hi
      go_wp2_with fail
      have D3 := am_ D2.out.drew
      have R3 := am_ (Kd.R_drew R2.out)
      have E1 := am_ (blk_drew C1.out)
      have E2 := am_ (blk_drew C2.out)
      have q0 : wr.drew.cell? ⟨w.heap.size + 3, 0, none⟩ = some u := cf0 E2.out
      clear D2 R2 C1 C2
      go_region_law
        (first
          | (go_simp; go_at_call 71; (with_reducible refine (pick_dw 4 (by decide) hl hu (by omega) D3.out).mono ?_); rintro e w3 ⟨v, rfl, hv0, hv1, hD, hk⟩; have D4 := am_ hD; have R4 := am_ (kR hk R3.out HG.out); have F1 := am_ (kB hk E1.out (by have := HG.out; omega)); have F2 := am_ (kB hk E2.out (by have := HG.out; omega)); clear hv0 hv1 hD hk q0; have q0 : w3.cell? ⟨w.heap.size + 3, 0, none⟩ = some u := cf0 F2.out; have q2 : ∀ o, (w3.alloc o).cell? ⟨w.heap.size + 3, 0, none⟩ = some u := fun o => cf0 (blk_alloc F2.out o))
          | (refine Kd.R_append_step (Kd.int .i64) w.heap.size (by rfl) (.tmp 17) (.tmp 20) 22 3 (.int .i64 0) 8 rfl Try.underlying22 info3 rfl (by decide) (by omega) u a v [.int .i64 v] (fun k => w.heap.size ≤ k) (fun _ => False) rfl rfl ?aP (fun _ hk => hk.elim) ?aF ?aO (Below.refl _ _) ?aS ?aL ?_; (case aP => exact rfl); (case aF => exact fun k hk => Nat.le_trans D4.out.sz hk); (case aO => exact R4.out); (case aS => exact D4.out.sz); (case aL => have := HL.out; omega); intro v1 w4 ho hb hg hat; obtain ⟨y, hy⟩ : ∃ y, y = a ++ [v] := ⟨_, rfl⟩; rw [← hy] at ho; have HY := am_ (show y.length = a.length + 1 by rw [hy]; simp); clear hy; obtain ⟨Ao, co, rfl⟩ := Kd.R_slice ho; have G1 := am_ (blk_grown F1.out hg (Kd.R_ne R4.out F1.out (by decide))); have G2 := am_ (blk_grown F2.out hg (Kd.R_ne R4.out F2.out (by decide))); have D5 := am_ (D4.out.grown HG.out hg (fun x hx => Kd.R_base R4.out x hx)); have R5 := am_ ho; clear ho hb hg hat q0 q2 D4 R4 F1 F2; have q0 : w4.cell? ⟨w.heap.size + 3, 0, none⟩ = some u := cf0 G2.out; have q1 := blk_frozen G2.out 0))
      all_goals
        clear q0 q1
        have hw : wrap64 (i - 1) = i - 1 := by have := HI.out; have := hn; unfold wrap64; omega
        have HW := am_ hw
        clear hw
        go_wp2_with fail
        go_roundg k1
        case measure => omega
        case rel => exact ⟨i - 1, _, _, by rw [HW.out], ⟨by have := HI.out; have := HI1.out; omega⟩, ⟨by have := HL.out; have := HY.out; omega⟩, ⟨((D5.out.set HG.out ⟨w.heap.size + 3, 0, none⟩ _ (by simp)).more (by have := HI.out; omega))⟩, ⟨Kd.R_mono (Kd.R_far (p := ⟨w.heap.size + 3, 0, none⟩) (Kd.R_types R5.out G2.out (by decide)) (fun _ h => h.2) _) (fun _ h => h.1)⟩, ⟨blk_far G1.out (by show w.heap.size + 1 ≠ w.heap.size + 3; omega) _⟩, ⟨blk_set G2.out 0 _⟩⟩
    · have hd : decide (0 < i) = false := decide_eq_false hi
      clear hi
      obtain ⟨B, hB⟩ : ∃ B, B = wr.heap.size := ⟨_, rfl⟩
      have HB := am_ (show w.heap.size + 3 < B from hB ▸ blk_lt C2.out)
      have Z1 := am_ (D2.out.more (show _ ≤ m + 90 by omega))
      have Z2 := am_ (show Kd.R (Kd.int .i64) 3 wr w.heap.size (fun k => w.heap.size ≤ k ∧ k < B) u a from Kd.R_mono (Kd.R_bound R2.out) (fun k h => ⟨h.1, hB ▸ h.2.2.1⟩))
      have Z3 := am_ (Kd.R_nil (Kd.int .i64) 3 wr B (fun k => B ≤ k))
      have HBw := am_ (show B ≤ wr.heap.size by omega)
      have HL2 := am_ (show a.length ≤ 900 by have := HL.out; omega)
      clear hB D2 R2 HL HI
      go_wp2_with fail
      go_loopg [7] 3 (fun kq v7 W => ∃ (j : Nat) (u2 : Value) (d : List Int), v7 = .int .i64 j ∧ Aside0 (j + kq = 3 ∧ d.length = j ∧ B ≤ W.heap.size) ∧ Aside0 (Dw w0 w W g b (m + 90 + j)) ∧ Aside0 (Kd.R (Kd.int .i64) 3 W w.heap.size (fun k => w.heap.size ≤ k ∧ k < B) u a) ∧
        Aside0 (Kd.R (Kd.int .i64) 3 W B (fun k => B ≤ k) u2 d) ∧ Aside0 (W.heap[w.heap.size + 1]? = some (.cells #[.slice none 0 0, .slice none 0 0] 24 (0, 0))) ∧ Aside0 (W.heap[w.heap.size + 3]? = some (.cells #[u, u2] 24 (0, 0))))
      case atStart => exact ⟨0, _, [], rfl, ⟨⟨rfl, rfl, HBw.out⟩⟩, Z1, Z2, Z3, C1, C2⟩
      case round =>
        obtain ⟨j, u2, d, rfl, HJ, D3, R3, S3, E1, E2⟩ := hrel
        clear Z1 Z2 Z3 C1 C2 HBw
        by_cases hj : j < 3
        · obtain ⟨k1, rfl⟩ : ∃ k, gk = k + 1 := ⟨gk - 1, by have := HJ.out; omega⟩
          have hd3 : decide ((j : Int) < 3) = true := decide_eq_true (by omega)
          clear hj
          go_wp2_with fail
          have D4 := am_ D3.out.drew
          have R4 := am_ (Kd.R_drew R3.out)
          have S4 := am_ (Kd.R_drew S3.out)
          have F1 := am_ (blk_drew E1.out)
          have F2 := am_ (blk_drew E2.out)
          have q0 : wr.drew.cell? ⟨w.heap.size + 3, 1, none⟩ = some u2 := cf1 F2.out
          have HJ2 := am_ (show B ≤ wr.drew.heap.size from HJ.out.2.2)
          clear D3 R3 S3 E1 E2
          go_region_law
            (first
              | (go_simp; go_at_call 71; (with_reducible refine (pick_dw 4 (by decide) hl hu (by have := HJ.out; omega) D4.out).mono ?_); rintro e w3 ⟨v, rfl, hv0, hv1, hD, hk⟩; have D5 := am_ hD; have R5 := am_ (kR2 hk R4.out HG.out); have S5 := am_ (kR hk S4.out (by have := HG.out; have := HB.out; omega)); have G1 := am_ (kB hk F1.out (by have := HG.out; omega)); have G2 := am_ (kB hk F2.out (by have := HG.out; omega)); have HJ3 := am_ (Nat.le_trans HJ2.out hk.1); clear hv0 hv1 hD hk q0; have q0 : w3.cell? ⟨w.heap.size + 3, 1, none⟩ = some u2 := cf1 G2.out; have q2 : ∀ o, (w3.alloc o).cell? ⟨w.heap.size + 3, 1, none⟩ = some u2 := fun o => cf1 (blk_alloc G2.out o))
              | (refine Kd.R_append_step (Kd.int .i64) B (by rfl) (.tmp 28) (.tmp 31) 22 3 (.int .i64 0) 8 rfl Try.underlying22 info3 rfl (by decide) (by omega) u2 d v [.int .i64 v] (fun k => B ≤ k) (fun _ => False) rfl rfl ?aP (fun _ hk => hk.elim) ?aF ?aO (Below.refl _ _) ?aS ?aL ?_; (case aP => exact rfl); (case aF => exact fun k hk => Nat.le_trans HJ3.out hk); (case aO => exact S5.out); (case aS => exact HJ3.out); (case aL => have := HJ.out; omega); intro v1 w4 ho hb hg hat; obtain ⟨y, hy⟩ : ∃ y, y = d ++ [v] := ⟨_, rfl⟩; rw [← hy] at ho; have HY := am_ (show y.length = d.length + 1 by rw [hy]; simp); clear hy; obtain ⟨Ao, co, rfl⟩ := Kd.R_slice ho; have I1 := am_ (blk_grown G1.out hg (Kd.R_ne S5.out G1.out (by decide))); have I2 := am_ (blk_grown G2.out hg (Kd.R_ne S5.out G2.out (by decide))); have D6 := am_ (D5.out.grown HG.out hg (fun x hx => by have := Kd.R_base S5.out x hx; have := HB.out; omega)); have R6 := am_ (Kd.R_step R5.out (fun k hk hlt => hg.block k hlt (fun e => by have := Kd.R_base S5.out k e.symm; omega))); have S6 := am_ ho; have HJ4 := am_ (Nat.le_trans HJ3.out hg.size); clear ho hb hg hat q0 q2 D5 R5 S5 G1 G2; have q0 : w4.cell? ⟨w.heap.size + 3, 1, none⟩ = some u2 := cf1 I2.out; have q1 := blk_frozen I2.out 1))
          all_goals
            clear q0 q1
            have hw : wrap64 ((j : Int) + 1) = ((j + 1 : Nat) : Int) := by have := HJ.out; unfold wrap64; omega
            have HW := am_ hw
            clear hw
            go_wp2_with fail
            go_roundg k1
            case measure => omega
            case rel => exact ⟨j + 1, _, y, by rw [HW.out], ⟨by have := HJ.out; have := HY.out; have := HJ4.out; simp only [World.size_setCell]; omega⟩, ⟨((D6.out.set HG.out ⟨w.heap.size + 3, 1, none⟩ _ (by simp)).more (by omega))⟩, ⟨Kd.R_mono (Kd.R_far (p := ⟨w.heap.size + 3, 1, none⟩) (Kd.R_types R6.out I2.out (by decide)) (fun _ h => h.2) _) (fun _ h => h.1)⟩, ⟨Kd.R_mono (Kd.R_far (p := ⟨w.heap.size + 3, 1, none⟩) (Kd.R_types S6.out I2.out (by decide)) (fun _ h => h.2) _) (fun _ h => h.1)⟩, ⟨blk_far I1.out (by show w.heap.size + 1 ≠ w.heap.size + 3; omega) _⟩, ⟨blk_set I2.out 1 _⟩⟩
        · have hd3 : decide ((j : Int) < 3) = false := decide_eq_false (by omega)
          have H3 := am_ (show j = 3 ∧ d.length = 3 by have := HJ.out; omega)
          clear hj
          go_wp2_with (go_at_call 71; refine park ?_)
          refine ⟨?_⟩
          refine (pick_dw 16 (by decide) hl hu (by have := H3.out; omega) D3.out).mono ?_
          rintro e w5 ⟨v, rfl, hv0, hv1, hD, hk⟩
          have D5 := am_ hD
          have R5 := am_ (kR2 hk R3.out HG.out)
          have S5 := am_ (kR hk S3.out (by have := HG.out; have := HB.out; omega))
          have F1 := am_ (kB hk E1.out (by have := HG.out; omega))
          have F2 := am_ (kB hk E2.out (by have := HG.out; omega))
          have HS5 := am_ (Nat.le_trans HJ.out.2.2 hk.1)
          clear hv0 hv1 hD hk D3 R3 S3 E1 E2
          go_upto_block 4 with fail
          go_cut [] from 36 to 59 (fun wc => ∃ (u1 u2 : Value) (a1 d1 : List Int), Aside0 (a1.length ≤ 1001 ∧ d1.length ≤ 3) ∧ Aside0 (Dw w0 w wc g b (m + 150)) ∧ Aside0 (Kd.R (Kd.int .i64) 3 wc w.heap.size (fun k => some k ≠ u2.ownBlock) u1 a1) ∧ Aside0 (Kd.Q (Kd.int .i64) 3 wc w.heap.size (fun k => some k ≠ u1.ownBlock) u2 d1) ∧
            Aside0 (wc.heap[w.heap.size + 1]? = some (.cells #[.slice none 0 0, .slice none 0 0] 24 (0, 0))) ∧ Aside0 (wc.heap[w.heap.size + 3]? = some (.cells #[u1, u2] 24 (0, 0))))
          case first =>
            by_cases h0 : v = 0
            · have t0 : (v == 0) = true := by simpa using h0
              clear h0
              obtain ⟨Au, cu, rfl⟩ := Kd.R_slice R5.out
              have q0 : w5.cell? ⟨w.heap.size + 3, 0, none⟩ = some (.slice Au a.length cu) := cf0 F2.out
              go_wp2_with (at_builtin; refine park ?_)
              clear q0
              refine ⟨?_⟩
              refine Kd.R_append (Kd.int .i64) w.heap.size rfl (.tmp 39) (.tmp 40) 22 3 (.int .i64 0) 8 rfl Try.underlying22 info3 rfl (by decide) (by omega) (.slice Au a.length cu) a 0 [.int .i64 0] (fun k => w.heap.size ≤ k ∧ k < B ∨ w5.heap.size ≤ k) (fun _ => False) rfl rfl rfl (fun _ hk => hk.elim) (fun k hk => .inr hk) (Kd.R_mono R5.out (fun k hk => .inl hk)) (Below.refl _ _) D5.out.sz (by have := HL2.out; omega) ?_
              intro v1 w6 ho hb hg hat
              obtain ⟨y, hy⟩ : ∃ y, y = a ++ [0] := ⟨_, rfl⟩
              rw [← hy] at ho
              have HY := am_ (show y.length = a.length + 1 by rw [hy]; simp)
              clear hy
              obtain ⟨Ao, co, rfl⟩ := Kd.R_slice ho
              have G1 := am_ (blk_grown F1.out hg (Kd.R_ne R5.out F1.out (by decide)))
              have G2 := am_ (blk_grown F2.out hg (Kd.R_ne R5.out F2.out (by decide)))
              have D6 := am_ (D5.out.grown HG.out hg (fun x hx => (R5.out.1 x hx).1))
              have S6 := am_ (Kd.R_step (Kd.R_mono (ok' := fun k => B ≤ k ∧ k < w5.heap.size) (Kd.R_bound S5.out) (fun k h => ⟨h.1, h.2.2.1⟩)) (fun k hk hlt => hg.block k hlt (fun e => by obtain ⟨_, _⟩ : w.heap.size ≤ k ∧ k < B := R5.out.1 k e.symm; omega)))
              have R6 := am_ ho
              clear ho hb hg hat
              have q0 : w6.cell? ⟨w.heap.size + 3, 0, none⟩ = some (.slice Au a.length cu) := cf0 G2.out
              have q1 := blk_frozen G2.out 0
              go_wp2_with fail
              clear q0 q1
              go_meet
              case rel =>
                have Rz := Kd.R_mono (Kd.R_far (p := ⟨w.heap.size + 3, 0, none⟩) (Kd.R_types R6.out G2.out (by decide)) (fun _ h => h.2) (.slice Ao y.length co)) (fun _ h => h.1)
                have Sz := Kd.R_mono (Kd.R_far (p := ⟨w.heap.size + 3, 0, none⟩) (Kd.R_types S6.out G2.out (by decide)) (fun _ h => h.2) (.slice Ao y.length co)) (fun _ h => h.1)
                have ff := fin_ Rz Sz (by have := HB.out; omega) (fun k h1 h2 => by obtain ⟨_, _⟩ : B ≤ k ∧ k < w5.heap.size := h2; have : w.heap.size ≤ k ∧ k < B ∨ w5.heap.size ≤ k := h1; omega)
                exact ⟨.slice Ao y.length co, u2, y, d, ⟨by have := HL2.out; have := H3.out; have := HY.out; omega⟩, ⟨(D6.out.set HG.out ⟨w.heap.size + 3, 0, none⟩ _ (by simp)).more (by have := H3.out; omega)⟩, ⟨ff.1⟩, ⟨ff.2⟩, ⟨blk_far G1.out (by show w.heap.size + 1 ≠ w.heap.size + 3; omega) _⟩, ⟨blk_set G2.out 0 _⟩⟩
            have t0 : (v == 0) = false := by simpa using h0
            by_cases h1 : v = 1
            · have t1 : (v == 1) = true := by simpa using h1
              obtain ⟨gl, cl, rfl, hgl, hgw, cells, hcl⟩ := Kd.R_form S5.out (by have := H3.out; omega)
              have HGL := am_ (show B ≤ gl ∧ gl < w5.heap.size from ⟨hgl, hgw⟩)
              have HD3 := am_ (show d.length = 3 by have := H3.out; omega)
              clear hgl hgw hcl h0 h1
              go_wp2_with fail
              have q0 : w5.drew.cell? ⟨w.heap.size + 3, 1, none⟩ = some (.slice (some ⟨gl, 0, none⟩) d.length cl) := cf1 F2.out
              have q2 : ∀ o, (w5.alloc o).cell? ⟨w.heap.size + 3, 1, none⟩ = some (.slice (some ⟨gl, 0, none⟩) d.length cl) := fun o => cf1 (blk_alloc F2.out o)
              have hd4 : (0 : Int) < (d.length : Int) := by have := H3.out; omega
              have hd5 : 0 < d.length := by have := H3.out; omega
              go_region_law
                (first
                  | (go_simp; go_at_call 71; (with_reducible refine (pick_dw 2 (by decide) hl hu (by have := H3.out; omega) D5.out.drew).mono ?_); rintro e w7 ⟨x, rfl, hx0, hx1, hD, hk⟩; have R7 := am_ (kR2 hk (Kd.R_drew R5.out) HG.out); have S7 := am_ (kR hk (Kd.R_drew S5.out) (by have := HG.out; have := HB.out; omega)); have G1 := am_ (kB hk (blk_drew F1.out) (by have := HG.out; omega)); have G2 := am_ (kB hk (blk_drew F2.out) (by have := HG.out; omega)); have D7 := am_ hD; have hz := hk.1; have HX := am_ (tw x hx0 hx1); have D8 := am_ (D7.out.alloc (Obj.cells #[.int .i64 (-1), .int .i64 4] 3)); have R8 := am_ (Kd.R_alloc R7.out (Obj.cells #[.int .i64 (-1), .int .i64 4] 3)); have S8 := am_ (Kd.R_alloc S7.out (Obj.cells #[.int .i64 (-1), .int .i64 4] 3)); have I1 := am_ (blk_alloc G1.out (Obj.cells #[.int .i64 (-1), .int .i64 4] 3)); have I2 := am_ (blk_alloc G2.out (Obj.cells #[.int .i64 (-1), .int .i64 4] 3)); obtain ⟨cs, hcs⟩ := Kd.R_typed S8.out gl rfl; have q3 : w7.cell? ⟨w.heap.size + 3, 1, none⟩ = some (.slice (some ⟨gl, 0, none⟩) d.length cl) := cf1 G2.out; have q4 : ∀ o, (w7.alloc o).cell? ⟨w.heap.size + 3, 1, none⟩ = some (.slice (some ⟨gl, 0, none⟩) d.length cl) := fun o => cf1 (blk_alloc G2.out o); have q5 : (w7.alloc (Obj.cells #[.int .i64 (-1), .int .i64 4] 3)).cell? ⟨w7.heap.size, x.toNat, none⟩ = some (.int .i64 (tz x)) := (blk_cell (heap_alloc_new w7 _) _).trans HX.out; obtain ⟨ad, had, q6⟩ := Kd.at_int (Kd.R_reads' S8.out).2.2 0 (by decide) hd4; obtain rfl : ad = ⟨gl, 0, none⟩ := (Option.some.inj had).symm; rw [show (0 : Int).toNat = 0 from rfl, add_plain] at q6; have q7 := blk_frozen hcs 0; clear hD hk hz hcs had)
                  | (go_simp; go_at_call 71; (with_reducible refine (pick_dw 2 (by decide) hl hu (by have := H3.out; omega) (D5.out.alloc (Obj.cells #[.int .i64 (-1), .int .i64 4] 3)).drew).mono ?_); rintro e w7 ⟨x, rfl, hx0, hx1, hD, hk⟩; have R7 := am_ (kR2 hk (Kd.R_drew (Kd.R_alloc R5.out (Obj.cells #[.int .i64 (-1), .int .i64 4] 3))) HG.out); have S7 := am_ (kR hk (Kd.R_drew (Kd.R_alloc S5.out (Obj.cells #[.int .i64 (-1), .int .i64 4] 3))) (by have := HG.out; have := HB.out; omega)); have G1 := am_ (kB hk (blk_drew (blk_alloc F1.out (Obj.cells #[.int .i64 (-1), .int .i64 4] 3))) (by have := HG.out; omega)); have G2 := am_ (kB hk (blk_drew (blk_alloc F2.out (Obj.cells #[.int .i64 (-1), .int .i64 4] 3))) (by have := HG.out; omega)); have D7 := am_ hD; have hz := hk.1; have HX := am_ (tw x hx0 hx1); have D8 := D7; have R8 := R7; have S8 := S7; have I1 := G1; have I2 := G2; obtain ⟨cs, hcs⟩ := Kd.R_typed S8.out gl rfl; have q3 : w7.cell? ⟨w.heap.size + 3, 1, none⟩ = some (.slice (some ⟨gl, 0, none⟩) d.length cl) := cf1 G2.out; have q5 : w7.cell? ⟨w5.heap.size, x.toNat, none⟩ = some (.int .i64 (tz x)) := (blk_cell (kB hk (blk_drew (heap_alloc_new w5 (Obj.cells #[.int .i64 (-1), .int .i64 4] 3))) (by have := HS5.out; have := HB.out; have := HG.out; omega)) _).trans HX.out; obtain ⟨ad, had, q6⟩ := Kd.at_int (Kd.R_reads' S8.out).2.2 0 (by decide) hd4; obtain rfl : ad = ⟨gl, 0, none⟩ := (Option.some.inj had).symm; rw [show (0 : Int).toNat = 0 from rfl, add_plain] at q6; have q7 := blk_frozen hcs 0; clear hD hk hz hcs had))
              all_goals
                clear q0 q2 q3 q5 q6 q7
                try clear q4
                go_wp2_with fail
                go_meet
                case rel =>
                  have hp := Kd.R_putg S8.out 0 (tz x)
                  have Rz := Kd.R_step R8.out (fun k hk hlt => hp.2.block k hlt (fun e => by obtain ⟨_, _⟩ : w.heap.size ≤ k ∧ k < B := hk; injection e with e; have := HGL.out; omega))
                  have J1 := blk_grown I1.out hp.2 (fun e => by injection e with e; have := HGL.out; have := HB.out; omega)
                  have J2 := blk_grown I2.out hp.2 (fun e => by injection e with e; have := HGL.out; have := HB.out; omega)
                  have ff := fin_ Rz hp.1 (by have := HB.out; omega) (fun k => by omega)
                  exact ⟨u, _, a, _, ⟨by have := HL2.out; have := H3.out; rw [List.length_set]; omega⟩, ⟨(D8.out.set HG.out ⟨gl, 0, none⟩ _ (by have := HGL.out; have := HB.out; show w.heap.size ≤ gl; omega)).more (by have := H3.out; omega)⟩, ⟨ff.1⟩, ⟨ff.2⟩, ⟨J1⟩, ⟨J2⟩⟩
            have t1 : (v == 1) = false := by simpa using h1
            by_cases h2 : v = 2
            · have t2 : (v == 2) = true := by simpa using h2
              obtain ⟨A2, c2, rfl⟩ := Kd.R_slice S5.out
              have q1 : (1 : Int) ≤ (d.length : Int) := by have := H3.out; omega
              obtain ⟨i1, hi1, _, hz1, _⟩ := info_parts info3
              have hcut := cut_from (P := Try.prog) 22 3 .i64 Try.underlying22 hi1 1 hz1 A2 d.length c2 1 (by omega) q1
              have hr := Kd.Q_drop (k := (1 : Int).toNat) (Kd.Q_of_R S5.out) (by omega)
              obtain ⟨A3, hA3⟩ : ∃ x, x = (if c2 = (1 : Int).toNat then A2 else A2.map (·.add ((1 : Int).toNat * 1))) := ⟨_, rfl⟩
              obtain ⟨c3, hc3⟩ : ∃ x, x = c2 - (1 : Int).toNat := ⟨_, rfl⟩
              obtain ⟨y, hy⟩ : ∃ y, y = d.drop (1 : Int).toNat := ⟨_, rfl⟩
              have hyl : y.length = d.length - (1 : Int).toNat := by rw [hy, List.length_drop]
              rw [← hyl, ← hA3, ← hc3] at hcut
              have Q6 := am_ (show Kd.Q (Kd.int .i64) 3 w5 B (fun k => B ≤ k) (.slice A3 y.length c3) y by rw [hA3, hc3, hyl, hy]; exact hr)
              have HE := am_ (show (Value.slice A3 y.length c3).ownBlock = (Value.slice A2 d.length c2).ownBlock by rw [hA3]; split <;> (cases A2 <;> rfl))
              have HY := am_ (show y.length ≤ 3 by have := H3.out; omega)
              clear hr hA3 hc3 hy hyl hi1 hz1 h0 h1 h2
              have q0 : w5.cell? ⟨w.heap.size + 3, 1, none⟩ = some (.slice A2 d.length c2) := cf1 F2.out
              have q3 := blk_frozen F2.out 1
              go_wp2_with fail
              clear q0 q3 hcut q1
              go_meet
              case rel =>
                have ff := fin_ R5.out S5.out (by have := HB.out; omega) (fun k => by omega)
                have Rz := Kd.R_mono (Kd.R_far (p := ⟨w.heap.size + 3, 1, none⟩) (Kd.R_types ff.1 F2.out (by decide)) (fun _ h => h.2) (.slice A3 y.length c3)) (fun k h => (show some k ≠ (Value.slice A3 y.length c3).ownBlock by rw [HE.out]; exact h.1))
                have Qz := Kd.Q_mono (Kd.Q_far (p := ⟨w.heap.size + 3, 1, none⟩) (Kd.Q_types (Kd.Q_lower Q6.out (show w.heap.size ≤ B by have := HB.out; omega)) F2.out (by decide)) (fun _ h => h.2) (.slice A3 y.length c3)) (fun k h => (show some k ≠ u.ownBlock from fun e => by obtain ⟨_, _⟩ : w.heap.size ≤ k ∧ k < B := R5.out.1 k e.symm; have : B ≤ k := h.1; omega))
                exact ⟨u, .slice A3 y.length c3, a, y, ⟨by have := HL2.out; have := HY.out; omega⟩, ⟨(D5.out.set HG.out ⟨w.heap.size + 3, 1, none⟩ _ (by simp)).more (by have := H3.out; omega)⟩, ⟨Rz⟩, ⟨Qz⟩, ⟨blk_far F1.out (by show w.heap.size + 1 ≠ w.heap.size + 3; omega) _⟩, ⟨blk_set F2.out 1 _⟩⟩
            have t2 : (v == 2) = false := by simpa using h2
            clear h0 h1 h2
            go_wp2_with fail
            go_meet
            case rel => exact ⟨u, u2, a, d, ⟨by have := HL2.out; have := H3.out; omega⟩, ⟨D5.out.more (by have := H3.out; omega)⟩, ⟨(fin_ R5.out S5.out (by have := HB.out; omega) (fun k => by omega)).1⟩, ⟨(fin_ R5.out S5.out (by have := HB.out; omega) (fun k => by omega)).2⟩, F1, F2⟩
          case rest =>
            obtain ⟨u1, u2', a1, d1, HA, D6, R6, Q6, G1, G2⟩ := hcut
            obtain ⟨Au, cu, rfl⟩ := Kd.R_slice R6.out
            obtain ⟨A2, c2, rfl, -⟩ := Kd.Q_slice Q6.out
            have q0 : wc.cell? ⟨w.heap.size + 3, 0, none⟩ = some (.slice Au a1.length cu) := cf0 G2.out
            have q1 : wc.cell? ⟨w.heap.size + 3, 1, none⟩ = some (.slice A2 d1.length c2) := cf1 G2.out
            have q2 := blk_frozen G1.out 0
            have q3 := blk_frozen G1.out 1
            have q4 : wc.cell? ⟨w.heap.size + 1, 0, none⟩ = some (.slice none 0 0) := cf0 G1.out
            have q5 : wc.cell? ⟨w.heap.size + 1, 1, none⟩ = some (.slice none 0 0) := cf1 G1.out
            go_wp2_with fail
            refine bodyPost_ret (results_cell_row rfl _ _ (w.heap.size + 1) 24 #[.slice Au a1.length cu, .slice A2 d1.length c2] (0, 0) _ rfl (blk_set (blk_set G1.out 0 _) 1 _) Try.underlying24 rfl (by kernel_rfl)) rfl ?_
            refine ⟨_, _, a1, d1, rfl, HA.out.1, HA.out.2, ?_, ?_, ((D6.out.set HG.out ⟨w.heap.size + 1, 0, none⟩ _ (by simp)).set HG.out ⟨w.heap.size + 1, 1, none⟩ _ (by simp)).more (by omega)⟩
            · exact Kd.R_mono (Kd.R_far (p := ⟨w.heap.size + 1, 1, none⟩) (Kd.R_far (p := ⟨w.heap.size + 1, 0, none⟩) (Kd.R_types R6.out G1.out (by decide)) (fun _ h => h.2) _) (fun _ h => h.2) _) (fun _ h => h.1)
            · exact Kd.Q_mono (Kd.Q_far (p := ⟨w.heap.size + 1, 1, none⟩) (Kd.Q_far (p := ⟨w.heap.size + 1, 0, none⟩) (Kd.Q_types Q6.out G1.out (by decide)) (fun _ h => h.2) _) (fun _ h => h.2) _) (fun _ h => h.1)
end Go.Proofs.Ytefkbmhkhpekjaa.PB

namespace Go.Proofs.Ytefkbmhkhpekjaa.Pure
open Go.RowKit Go.Proofs.Ytefkbmhkhpekjaa.PB Go.Proofs.YtefkbmhkhpekjaaW.PrintWords Go.Proofs.YtefkbmhkhpekjaaW.PrintLast
set_option linter.unusedVariables false

def hasB : List Int → Int → Bool
  | [], _ => false
  | a :: l, x => a == x || hasB l x
theorem rd_get {l : List Int} {n : Nat} (h : n < l.length) : rd l (n : Int) = l[n] := by
  unfold rd
  rw [Int.toNat_natCast, List.getD_eq_getElem?_getD, List.getElem?_eq_getElem h]
  rfl
theorem sHasL (l : List Int) (hl : l.length ≤ 1000) (x : Int) : ∀ m : Nat, m ≤ l.length → Ev (fun k => spec_l12Has.l0 k l x ((l.length - m : Nat) : Int)) (hasB (l.drop (l.length - m)) x)
  | 0, _ => by
    refine Ev.succ (Ev.now fun k => ?_)
    simp [spec_l12Has.l0, hasB]
  | m + 1, hm => by
    have hlt : l.length - (m + 1) < l.length := by omega
    have hd : l.drop (l.length - (m + 1)) = l[l.length - (m + 1)] :: l.drop (l.length - m) := by
      rw [List.drop_eq_getElem_cons hlt, show l.length - (m + 1) + 1 = l.length - m by omega]
    rw [hd]
    refine Ev.succ ?_
    simp only [spec_l12Has.l0, rd_get hlt, hasB, if_pos (show ((l.length - (m + 1) : Nat) : Int) < (l.length : Int) by omega), if_pos (show (0 : Int) ≤ ((l.length - (m + 1) : Nat) : Int) by omega)]
    rw [w64' (by omega) (by omega), show ((l.length - (m + 1) : Nat) : Int) + 1 = ((l.length - m : Nat) : Int) by omega]
    generalize l[l.length - (m + 1)] = a
    by_cases h : a = x
    · simp only [if_pos h]
      exact Ev.const.of (by simp [h])
    · simp only [if_neg h]
      exact (sHasL l hl x m (by omega)).of (by rw [show (a == x) = false by simpa using h]; rfl)
theorem sHas (l : List Int) (hl : l.length ≤ 1000) (x : Int) : Ev (fun k => spec_l12Has.f k l x) (hasB l x) := by
  have := sHasL l hl x l.length (Nat.le_refl _)
  rw [Nat.sub_self] at this
  exact this
theorem iIndexL (l : List Int) (hl : l.length ≤ 1000) (x : Int) : ∀ m : Nat, m ≤ l.length → ∃ r, Ev (fun k => slices_Index_int_int.l0 k l x (l.length : Int) ((l.length - m : Nat) : Int)) r ∧ decide (r ≥ 0) = hasB (l.drop (l.length - m)) x
  | 0, _ => by
    refine ⟨-1, Ev.succ (Ev.now fun k => ?_), by simp [hasB]⟩
    simp [slices_Index_int_int.l0]
  | m + 1, hm => by
    have hlt : l.length - (m + 1) < l.length := by omega
    have hd : l.drop (l.length - (m + 1)) = l[l.length - (m + 1)] :: l.drop (l.length - m) := by
      rw [List.drop_eq_getElem_cons hlt, show l.length - (m + 1) + 1 = l.length - m by omega]
    rw [hd]
    obtain ⟨r, e, hr⟩ := iIndexL l hl x m (by omega)
    by_cases h : l[l.length - (m + 1)] = x
    · refine ⟨((l.length - (m + 1) : Nat) : Int), Ev.succ ?_, by simp only [hasB, h, BEq.rfl, Bool.true_or, decide_eq_true_eq]; omega⟩
      simp only [slices_Index_int_int.l0, rd_get hlt, if_pos (show ((l.length - (m + 1) : Nat) : Int) < (l.length : Int) by omega), if_pos (show (0 : Int) ≤ ((l.length - (m + 1) : Nat) : Int) by omega), h, if_true]
      exact Ev.const
    · refine ⟨r, Ev.succ ?_, by rw [hr]; simp only [hasB, show (l[l.length - (m + 1)] == x) = false by simpa using h, Bool.false_or]⟩
      simp only [slices_Index_int_int.l0, rd_get hlt, if_pos (show ((l.length - (m + 1) : Nat) : Int) < (l.length : Int) by omega), if_pos (show (0 : Int) ≤ ((l.length - (m + 1) : Nat) : Int) by omega), if_neg (fun e => h (Eq.symm e) : ¬ x = l[l.length - (m + 1)])]
      rw [w64' (by omega) (by omega), show ((l.length - (m + 1) : Nat) : Int) + 1 = ((l.length - m : Nat) : Int) by omega]
      exact e
theorem iHas (l : List Int) (hl : l.length ≤ 1000) (x : Int) : Ev (fun k => slices_Contains_int_int.f k l x) (hasB l x) := by
  obtain ⟨r, e, hr⟩ := iIndexL l hl x l.length (Nat.le_refl _)
  rw [Nat.sub_self] at e hr
  unfold slices_Contains_int_int.f
  exact Ev.bind (F := fun k => slices_Index_int_int.f k l x) e (Ev.const.of (by rw [hr]; rfl))
/-- All numbers from n - m on, below n. -/
def fromB (l : List Int) (n : Nat) : Nat → Bool
  | 0 => true
  | m + 1 => hasB l ((n - (m + 1) : Nat) : Int) && fromB l n m
def rowB (l : List Int) (n : Nat) : Bool := decide (l.length = n) && fromB l n n
theorem sRowL (l : List Int) (hl : l.length ≤ 1000) (n : Nat) (hn : n ≤ 1000) : ∀ m : Nat, m ≤ n → Ev (fun k => spec_l22Row.l0 k l (n : Int) ((n - m : Nat) : Int)) (fromB l n m)
  | 0, _ => by
    refine Ev.succ (Ev.now fun k => ?_)
    simp [spec_l22Row.l0, fromB]
  | m + 1, hm => by
    refine Ev.succ ?_
    simp only [spec_l22Row.l0, fromB, if_pos (show ((n - (m + 1) : Nat) : Int) < (n : Int) by omega)]
    refine Ev.bind (sHas l hl _) ?_
    rw [w64' (by omega) (by omega), show ((n - (m + 1) : Nat) : Int) + 1 = ((n - m : Nat) : Int) by omega]
    cases hasB l ((n - (m + 1) : Nat) : Int)
    · simp only [Bool.false_eq_true, if_false]
      exact Ev.const
    · simp only [if_true]
      exact sRowL l hl n hn m (by omega)
theorem sRow (l : List Int) (hl : l.length ≤ 1048576) (n : Nat) (hn : n ≤ 1000) : Ev (fun k => spec_l22Row.f k l (n : Int)) (rowB l n) := by
  unfold spec_l22Row.f rowB
  by_cases h : l.length = n
  · simp only [if_pos (show (l.length : Int) = (n : Int) by omega)]
    have := sRowL l (by omega) n hn n (Nat.le_refl _)
    rw [Nat.sub_self] at this
    exact this.of (by simp [h])
  · simp only [if_neg (show ¬ (l.length : Int) = (n : Int) by omega)]
    exact Ev.const.of (by simp [h])
theorem iRowL (l : List Int) (hl : l.length ≤ 1000) (n : Nat) (hn : n ≤ 1000) : ∀ m : Nat, m ≤ n → Ev (fun k => impl_isRow.l0 k l (n : Int) ((n - m : Nat) : Int)) (fromB l n m)
  | 0, _ => by
    refine Ev.succ (Ev.now fun k => ?_)
    simp [impl_isRow.l0, fromB]
  | m + 1, hm => by
    refine Ev.succ ?_
    simp only [impl_isRow.l0, fromB, if_pos (show ((n - (m + 1) : Nat) : Int) < (n : Int) by omega)]
    refine Ev.bind (iHas l hl _) ?_
    rw [w64' (by omega) (by omega), show ((n - (m + 1) : Nat) : Int) + 1 = ((n - m : Nat) : Int) by omega]
    cases hasB l ((n - (m + 1) : Nat) : Int)
    · simp only [Bool.false_eq_true, if_false]
      exact Ev.const
    · simp only [if_true]
      exact iRowL l hl n hn m (by omega)
theorem iRow (l : List Int) (hl : l.length ≤ 1048576) (n : Nat) (hn : n ≤ 1000) : Ev (fun k => impl_isRow.f k l (n : Int)) (rowB l n) := by
  unfold impl_isRow.f rowB
  by_cases h : l.length = n
  · simp only [if_pos (show (l.length : Int) = (n : Int) by omega)]
    have := iRowL l (by omega) n hn n (Nat.le_refl _)
    rw [Nat.sub_self] at this
    exact this.of (by simp [h])
  · simp only [if_neg (show ¬ (l.length : Int) = (n : Int) by omega)]
    exact Ev.const.of (by simp [h])
theorem hasB_append : ∀ (l : List Int) (y x : Int), hasB l x = true → hasB (l ++ [y]) x = true
  | [], _, _, h => by simp [hasB] at h
  | a :: l, y, x, h => by
    simp only [List.cons_append, hasB, Bool.or_eq_true] at h ⊢
    rcases h with h | h
    · exact .inl h
    · exact .inr (hasB_append l y x h)
theorem hasB_last : ∀ (l : List Int) (y : Int), hasB (l ++ [y]) y = true
  | [], y => by simp [hasB]
  | a :: l, y => by
    simp only [List.cons_append, hasB, Bool.or_eq_true]
    exact .inr (hasB_last l y)
theorem row1 {a : Int} (h : fromB [a] 1 1 = true) : a = 0 := by
  simp [fromB, hasB] at h
  omega
theorem row2 {a b : Int} (h : fromB [a, b] 2 2 = true) : (a = 0 ∧ b = 1) ∨ (a = 1 ∧ b = 0) := by
  simp [fromB, hasB] at h
  omega
theorem row3 {a b c : Int} (h : fromB [a, b, c] 3 3 = true) : (a = 0 ∧ b = 1 ∧ c = 2) ∨ (a = 0 ∧ b = 2 ∧ c = 1) ∨ (a = 1 ∧ b = 0 ∧ c = 2) ∨ (a = 1 ∧ b = 2 ∧ c = 0) ∨ (a = 2 ∧ b = 0 ∧ c = 1) ∨ (a = 2 ∧ b = 1 ∧ c = 0) := by
  simp [fromB, hasB] at h
  obtain ⟨h0, h1, h2⟩ := h
  rcases h0 with h0 | h0 | h0 <;> rcases h1 with h1 | h1 | h1 <;> (try omega) <;> rcases h2 with h2 | h2 | h2 <;> (try omega) <;> subst h0 <;> subst h1 <;> subst h2 <;> simp
/-- The nine ways to turn one, two or three. -/
theorem row_cases {row : List Int} {n : Nat} (h1 : 1 ≤ n) (h3 : n ≤ 3) (h : rowB row n = true) : (n = 1 ∧ row = [0]) ∨ (n = 2 ∧ (row = [0, 1] ∨ row = [1, 0])) ∨ (n = 3 ∧ (row = [0, 1, 2] ∨ row = [0, 2, 1] ∨ row = [1, 0, 2] ∨ row = [1, 2, 0] ∨ row = [2, 0, 1] ∨ row = [2, 1, 0])) := by
  unfold rowB at h
  rw [Bool.and_eq_true, decide_eq_true_eq] at h
  obtain ⟨hl, hf⟩ := h
  subst hl
  match row, h1, h3, hf with
  | [a], _, _, hf => obtain rfl := row1 hf; exact .inl ⟨rfl, rfl⟩
  | [a, b], _, _, hf =>
    rcases row2 hf with ⟨rfl, rfl⟩ | ⟨rfl, rfl⟩
    · exact .inr (.inl ⟨rfl, .inl rfl⟩)
    · exact .inr (.inl ⟨rfl, .inr rfl⟩)
  | [a, b, c], _, _, hf =>
    refine .inr (.inr ⟨rfl, ?_⟩)
    rcases row3 hf with ⟨rfl, rfl, rfl⟩ | ⟨rfl, rfl, rfl⟩ | ⟨rfl, rfl, rfl⟩ | ⟨rfl, rfl, rfl⟩ | ⟨rfl, rfl, rfl⟩ | ⟨rfl, rfl, rfl⟩ <;> simp
  | a :: b :: c :: d :: l, _, h3, _ => exact absurd h3 (by simp)
/-- The row that turns back. -/
def backR : List Int → List Int
  | [0] => [0]
  | [0, 1] => [0, 1]
  | [1, 0] => [1, 0]
  | [0, 1, 2] => [0, 1, 2]
  | [0, 2, 1] => [0, 2, 1]
  | [1, 0, 2] => [1, 0, 2]
  | [1, 2, 0] => [2, 0, 1]
  | [2, 0, 1] => [1, 2, 0]
  | [2, 1, 0] => [2, 1, 0]
  | l => l
theorem row_len {row : List Int} {n : Nat} (h : rowB row n = true) : row.length = n := by
  unfold rowB at h
  rw [Bool.and_eq_true, decide_eq_true_eq] at h
  exact h.1
theorem row_in {row : List Int} {n : Nat} (h3 : n ≤ 3) (h : rowB row n = true) : ∀ x ∈ row, 0 ≤ x ∧ x < (n : Int) := by
  by_cases h0 : n = 0
  · intro x hx
    have := row_len h
    rw [h0] at this
    rw [List.length_eq_zero_iff.1 this] at hx
    cases hx
  have h1 : 1 ≤ n := by omega
  rcases row_cases h1 h3 h with ⟨rfl, rfl⟩ | ⟨rfl, rfl | rfl⟩ | ⟨rfl, rfl | rfl | rfl | rfl | rfl | rfl⟩ <;> simp
theorem okP_len {p : List (List S85)} (h : okP p = true) : p.length ≤ 3 := by
  unfold okP at h
  rw [Bool.and_eq_true, decide_eq_true_eq] at h
  exact h.1
end Go.Proofs.Ytefkbmhkhpekjaa.Pure

namespace Go.Proofs.Ytefkbmhkhpekjaa.PB
open Go.RowKit Go.Proofs.YtefkbmhkhpekjaaW.PrintWords Go.Proofs.YtefkbmhkhpekjaaW.PrintLast Go.Proofs.YtefkbmhkhpekjaaW.PrintMore
attribute [local go_sem] max2_int min2_int max_two min_two max_three min_three max_four min_four   -- for this text's walks alone
open Go.Proofs.YtefkbmhkhpekjaaMine
set_option linter.unusedVariables false
set_option linter.unusedSimpArgs false

theorem z96_1 {p : Prop} (h : p := by first | rfl | (simp; done) | (simp [*]; done)) : p := h
theorem z96_2 {p : Prop} (h : p := by first | rfl | (simp [errW_none, errW_some] <;> rfl) | (simp [*, errW_none, errW_some] <;> rfl)) : p := h
theorem z96_3 {p : Prop} (h : p := by repeat (first | (with_reducible first | exact HK.out | apply KeepBut.set_ | apply keep_drewN | apply keep_drew | apply keep_alloc) | exact HK.out)) : p := h
theorem z96_4 {p : Prop} (h : p := by repeat (first | (with_reducible first | exact HI0.out | apply IsS116.alloc | apply IsS116.drewN | apply IsS116.drew | apply IsS116.set_1) | exact HI0.out)) : p := h
theorem z96_5 {p : Prop} (h : p := by repeat (first | (with_reducible first | exact HB.out | apply below_alloc | apply pw_below_drewN | apply below_drew1 | refine below_set ?_ (IsS116.ge HI0.out)) | exact HB.out)) : p := h
/-! ### spec_l71Row: function 96 -/
def spec_l71Row.l0 : Nat → Int → List Int → Int → List Int → Int → Option (List Int × Int)
  | 0, _, _, _, _, _ => none
  | k + 1, x1, x5, x6, x01, x00 => if (x5.length : Int) < x1 then ((spec_l6Rd_pick.f k x01 x00 x1).bind fun bt903 => (if x6 > 20 then (if x1 = 0 then (none) else ((spec_l12Has.f k x5 (Int.tmod x6 x1)).bind fun t905 => (if t905 = true then (spec_l71Row.l0 k x1 x5 (wrap64 (x6 + 1)) x01 bt903.2) else (if x5.length < 17592186044416 then (spec_l71Row.l0 k x1 (x5 ++ [Int.tmod x6 x1]) (wrap64 (x6 + 1)) x01 bt903.2) else (none))))) else ((spec_l12Has.f k x5 bt903.1).bind fun t909 => (if t909 = true then (spec_l71Row.l0 k x1 x5 (wrap64 (x6 + 1)) x01 bt903.2) else (if x5.length < 17592186044416 then (spec_l71Row.l0 k x1 (x5 ++ [bt903.1]) (wrap64 (x6 + 1)) x01 bt903.2) else (none)))))) else ((spec_l6Rd_pick.f k x01 x00 20).bind fun bt913 => (if bt913.1 = 0 then ((spec_l6Rd_pick.f k x01 bt913.2 3).bind fun bt915 => (if x5.length < 17592186044416 then (some ((x5 ++ [bt915.1]), bt915.2)) else (none))) else (some (x5, bt913.2))))
def spec_l71Row.f (k : Nat) (s0_0 : List Int) (s0_1 : Int) (a1 : Int) : Option (List Int × Int) := spec_l71Row.l0 k a1 (([] : List Int)) 0 s0_0 s0_1
set_option maxHeartbeats 8000000 in
set_option maxRecDepth 100000 in
theorem spec_l71Row.calls (k : Nat) (g : Nat) (s0_0 : List Int) (s0_1 : Int) (a1 : Int) (r1 : List Int) (r2 : Int) (w0 w : World) (hI : IsS116 w0 w g s0_0 s0_1) (hB : Below w0.heap.size w0 w) (h : spec_l71Row.f k s0_0 s0_1 a1 = some (r1, r2)) :
  Calls Try.prog 96 #[.pointer (some ⟨g, 0, none⟩), .int .i64 a1] w fun e w' => ∃ v0_ : Value, e = .returned (v0_) ∧ Kd.R (Kd.int .i64) 3 w' w.heap.size (fun _ => True) v0_ r1 ∧ IsS116 w0 w' g s0_0 r2 ∧ Below w0.heap.size w0 w' ∧ KeepBut w w' g none := by
 have HI0 := am_ hI
 have HK := am_ (KeepBut.refl w g none)
 have HL := am_ hB.size
 clear hI
 have HW0 := am_ hB.size
 have HB := am_ hB
 clear hB
 have H : (spec_l71Row.l0 k a1 (([] : List Int)) 0 s0_0 s0_1) = some (r1, r2) := h
 clear h
 obtain ⟨y900, hy900⟩ : ∃ y_ : List Int, y_ = (([] : List Int)) := ⟨_, rfl⟩
 replace H : (spec_l71Row.l0 k a1 y900 0 s0_0 s0_1) = some (r1, r2) := by first | (rw [hy900]; with_reducible exact H) | (have H2_ := (Option.bind_some _ _).symm.trans H; rw [hy900]; with_reducible exact H2_) | (have H2_ := (Option.bind_some _ _).symm.trans H; with_reducible exact H2_) | with_reducible exact H | (rw [hy900]; exact H) | exact H
 have Ny900 := am_ hy900
 clear hy900
 have H' := am_ H
 clear H
 go_enter Try.func96, Try.ntmps96
 go_wp2_with (first | ((with_reducible refine gate_dst (N := 8) rfl ?_); refine Kd.R_lit (Kd.int .i64) _ 3 ?hg (N := 8) ?hd (xs := ([] : List Int)) (inner := []) (ok := fun _ => True) (okp := fun _ => True) ?hr ?hp (fun _ hk => hk) trivial (Below.refl _ _) (Nat.le_refl _) (by simp) ?_; (case hd => rfl); (case hg => rfl); (case hr => first | (go_simp; done) | (go_simp; rfl)); (case hp => exact (Reps.none _ _)); intro v901 w3 ho4 hb hg_ hnew_; clear hg_ hnew_; (first | rw [← Ny900.out] at ho4 | (simp only [Int.reduceToNat] at ho4; rw [← Ny900.out] at ho4)); have n0_ := am_ (Kd.R_lower ho4 (keep_size (w := w) (g := g) (row := none) z96_3)); have n1_ := am_ (IsS116.below z96_4 hb); have n2_ := am_ (KeepBut.trans z96_3 (KeepBut.of_below hb g none) (.inl rfl)); have n3_ := am_ (below_step z96_5 hb); clear HI0 HK HB; have HO902 := n0_; have HI0 := n1_; have HK := n2_; have HB := n3_; clear n0_ n1_ n2_ n3_; clear hb ho4))
 go_loopg [5, 6] k (fun kq v5 v6 w' => ∃ (x5_1 : List Int) (x6_1 : Int) (x00_1 : Int), v6 = .int .i64 x6_1 ∧ Aside0 (spec_l71Row.l0 kq a1 x5_1 x6_1 s0_0 x00_1 = some (r1, r2)) ∧ Aside0 (kq ≤ k) ∧ Aside0 (Kd.R (Kd.int .i64) 3 w' w.heap.size (fun _ => True) v5 x5_1) ∧ Aside0 (IsS116 w0 w' g s0_0 x00_1) ∧ Aside0 (KeepBut w w' g none) ∧ Aside0 (Below w0.heap.size w0 w'))
 case atStart => exact ⟨(y900), (0), (s0_1), z96_1, H', ⟨Nat.le_refl _⟩, ⟨ru HO902.out⟩, ⟨z96_4⟩, ⟨z96_3⟩, ⟨z96_5⟩⟩
 case round =>
  clear H'
  obtain ⟨x5_1, x6_1, x00_1, rfl, HA, HK1, HO_5, HI0, HK, HB⟩ := hrel
  cases gk with
  | zero => exact absurd HA.out (by simp [spec_l71Row.l0])
  | succ k1 =>
   have H := HA.out
   clear HA
   simp only [spec_l71Row.l0] at H
   by_cases c5 : (x5_1.length : Int) < a1
   ·rw [if_pos c5] at H
    have c5b0 : decide ((x5_1.length : Int) < a1) = true := decide_eq_true c5
    clear c5
    replace H := Option.bind_eq_some_iff.mp H
    obtain ⟨⟨t903, t904⟩, A60, H⟩ := H
    replace H : (if x6_1 > 20 then (if a1 = 0 then (none) else ((spec_l12Has.f k1 x5_1 (Int.tmod x6_1 a1)).bind fun t905 => (if t905 = true then (spec_l71Row.l0 k1 a1 x5_1 (wrap64 (x6_1 + 1)) s0_0 t904) else (if x5_1.length < 17592186044416 then (spec_l71Row.l0 k1 a1 (x5_1 ++ [Int.tmod x6_1 a1]) (wrap64 (x6_1 + 1)) s0_0 t904) else (none))))) else ((spec_l12Has.f k1 x5_1 t903).bind fun t909 => (if t909 = true then (spec_l71Row.l0 k1 a1 x5_1 (wrap64 (x6_1 + 1)) s0_0 t904) else (if x5_1.length < 17592186044416 then (spec_l71Row.l0 k1 a1 (x5_1 ++ [t903]) (wrap64 (x6_1 + 1)) s0_0 t904) else (none))))) = some (r1, r2) := H
    have A6 := am_ A60
    clear A60
    by_cases c7 : x6_1 > 20
    ·rw [if_pos c7] at H
     have c7b0 : decide (20 < x6_1) = true := decide_eq_true c7
     clear c7
     by_cases c8 : a1 = 0
     ·rw [if_pos c8] at H
      exact absurd H (by simp)
     rw [if_neg c8] at H
     have c8b0 : (a1 == 0) = false := beq_eq_false_iff_ne.mpr c8
     have c8b1 : (a1 != 0) = true := bne_iff_ne.mpr c8
     replace H := Option.bind_eq_some_iff.mp H
     obtain ⟨t905, A90, H⟩ := H
     replace H : (if t905 = true then (spec_l71Row.l0 k1 a1 x5_1 (wrap64 (x6_1 + 1)) s0_0 t904) else (if x5_1.length < 17592186044416 then (spec_l71Row.l0 k1 a1 (x5_1 ++ [Int.tmod x6_1 a1]) (wrap64 (x6_1 + 1)) s0_0 t904) else (none))) = some (r1, r2) := H
     have A9 := am_ A90
     clear A90
     by_cases c10 : t905 = true
     ·subst c10
      have H1 : (spec_l71Row.l0 k1 a1 x5_1 (wrap64 (x6_1 + 1)) s0_0 t904) = some (r1, r2) := by rw [if_pos rfl] at H; exact H
      clear H
      have H := H1
      clear H1
      have H' := am_ H
      clear H
      obtain ⟨Ao11, co11, eo11⟩ := Kd.R_slice HO_5.out
      subst eo11
      go_wp2_with (first | ((with_reducible refine gate_callee (f := 71) rfl ?_); refine goesL_ (some 17) rfl rfl Try.func71 (by kernel_rfl) rfl #[.pointer (some ⟨g, 0, none⟩), .int .i64 a1] rfl (by (try simp only [List.map_toArray, List.map_cons, List.map_nil]); first | done | rfl | (simp only [List.length_drop, List.length_take]; rfl)) ?_; (with_reducible refine (spec_l6Rd_pick.calls k1 g s0_0 x00_1 a1 t903 t904 w0 _ ?side1 ?side2 A6.out).mono ?_); (case side1 => repeat (first | (with_reducible first | exact HI0.out | apply IsS116.alloc | apply IsS116.drewN | apply IsS116.drew | apply IsS116.set_1) | exact HI0.out)); (case side2 => repeat (first | (with_reducible first | exact HB.out | apply below_alloc | apply pw_below_drewN | apply below_drew1 | refine below_set ?_ (IsS116.ge HI0.out)) | exact HB.out)); rintro e w12 ⟨rfl, hi, hb, hk⟩; refine ⟨_, rfl, ?_⟩; replace HO_5 := am_ (Kd.R_mono (Kd.R_keep (IsS116.apart (show IsS116 w0 _ g s0_0 x00_1 from by repeat (first | (with_reducible first | exact HI0.out | apply IsS116.alloc | apply IsS116.drewN | apply IsS116.drew | apply IsS116.set_1) | exact HI0.out)) (ru HO_5.out) (by decide)) hk (fun _ h => h.2)) (fun _ h => h.1)); replace HK := am_ (KeepBut.trans z96_3 hk (.inl rfl)); replace HB := am_ (hb); replace HI0 := am_ (hi); (try clear hb); (try clear hb2); (try clear hk); (try clear hi)) | ((with_reducible refine gate_callee (f := 101) rfl ?_); refine goesL_ (some 25) rfl rfl Try.func101 (by kernel_rfl) rfl #[.slice Ao11 x5_1.length co11, .int .i64 (Int.tmod x6_1 a1)] rfl (by (try simp only [List.map_toArray, List.map_cons, List.map_nil]); first | done | rfl | (simp only [List.length_drop, List.length_take]; rfl)) ?_; (with_reducible refine (spec_l12Has.calls k1 _ _ x5_1 (Int.tmod x6_1 a1) true _ ?side1 ?side2 A9.out).mono ?_); (case side1 => repeat (first | exact (Kd.R_reads' HO_5.out).2.2 | (with_reducible refine Kd.C_alloc ?_ _) | (with_reducible refine Kd.C_drewN ?_ _) | (with_reducible refine Kd.C_drew ?_))); (case side2 => exact (Kd.R_reads' HO_5.out).2.1); rintro e w' ⟨rfl, ⟨nd, rfl⟩⟩; refine ⟨_, rfl, ?_⟩))
      go_roundg k1
      case measure => have := HK1.out; omega
      case rel => exact ⟨(x5_1), (wrap64 (x6_1 + 1)), (t904), z96_1, H', ⟨by have := HK1.out; omega⟩, ⟨ru HO_5.out⟩, ⟨z96_4⟩, ⟨z96_3⟩, ⟨z96_5⟩⟩
     replace c10 := Bool.eq_false_iff.mpr c10
     subst c10
     have H1 : (if x5_1.length < 17592186044416 then (spec_l71Row.l0 k1 a1 (x5_1 ++ [Int.tmod x6_1 a1]) (wrap64 (x6_1 + 1)) s0_0 t904) else (none)) = some (r1, r2) := by rw [if_neg (show ¬ (false = true) by decide)] at H; exact H
     clear H
     have H := H1
     clear H1
     by_cases c13 : x5_1.length < 17592186044416
     ·rw [if_pos c13] at H
      have LMc13 := am_ c13
      clear c13
      obtain ⟨y906, hy906⟩ : ∃ y_ : List Int, y_ = (x5_1 ++ [Int.tmod x6_1 a1]) := ⟨_, rfl⟩
      replace H : (spec_l71Row.l0 k1 a1 y906 (wrap64 (x6_1 + 1)) s0_0 t904) = some (r1, r2) := by first | (rw [hy906]; with_reducible exact H) | (have H2_ := (Option.bind_some _ _).symm.trans H; rw [hy906]; with_reducible exact H2_) | (have H2_ := (Option.bind_some _ _).symm.trans H; with_reducible exact H2_) | with_reducible exact H | (rw [hy906]; exact H) | exact H
      have Ny906 := am_ hy906
      clear hy906
      have H' := am_ H
      clear H
      obtain ⟨Ao14, co14, eo14⟩ := Kd.R_slice HO_5.out
      subst eo14
      go_wp2_with (first | ((with_reducible refine gate_callee (f := 71) rfl ?_); refine goesL_ (some 17) rfl rfl Try.func71 (by kernel_rfl) rfl #[.pointer (some ⟨g, 0, none⟩), .int .i64 a1] rfl (by (try simp only [List.map_toArray, List.map_cons, List.map_nil]); first | done | rfl | (simp only [List.length_drop, List.length_take]; rfl)) ?_; (with_reducible refine (spec_l6Rd_pick.calls k1 g s0_0 x00_1 a1 t903 t904 w0 _ ?side1 ?side2 A6.out).mono ?_); (case side1 => repeat (first | (with_reducible first | exact HI0.out | apply IsS116.alloc | apply IsS116.drewN | apply IsS116.drew | apply IsS116.set_1) | exact HI0.out)); (case side2 => repeat (first | (with_reducible first | exact HB.out | apply below_alloc | apply pw_below_drewN | apply below_drew1 | refine below_set ?_ (IsS116.ge HI0.out)) | exact HB.out)); rintro e w15 ⟨rfl, hi, hb, hk⟩; refine ⟨_, rfl, ?_⟩; replace HO_5 := am_ (Kd.R_mono (Kd.R_keep (IsS116.apart (show IsS116 w0 _ g s0_0 x00_1 from by repeat (first | (with_reducible first | exact HI0.out | apply IsS116.alloc | apply IsS116.drewN | apply IsS116.drew | apply IsS116.set_1) | exact HI0.out)) (ru HO_5.out) (by decide)) hk (fun _ h => h.2)) (fun _ h => h.1)); replace HK := am_ (KeepBut.trans z96_3 hk (.inl rfl)); replace HB := am_ (hb); replace HI0 := am_ (hi); (try clear hb); (try clear hb2); (try clear hk); (try clear hi)) | ((with_reducible refine gate_callee (f := 101) rfl ?_); refine goesL_ (some 25) rfl rfl Try.func101 (by kernel_rfl) rfl #[.slice Ao14 x5_1.length co14, .int .i64 (Int.tmod x6_1 a1)] rfl (by (try simp only [List.map_toArray, List.map_cons, List.map_nil]); first | done | rfl | (simp only [List.length_drop, List.length_take]; rfl)) ?_; (with_reducible refine (spec_l12Has.calls k1 _ _ x5_1 (Int.tmod x6_1 a1) false _ ?side1 ?side2 A9.out).mono ?_); (case side1 => repeat (first | exact (Kd.R_reads' HO_5.out).2.2 | (with_reducible refine Kd.C_alloc ?_ _) | (with_reducible refine Kd.C_drewN ?_ _) | (with_reducible refine Kd.C_drew ?_))); (case side2 => exact (Kd.R_reads' HO_5.out).2.1); rintro e w' ⟨rfl, ⟨nd, rfl⟩⟩; refine ⟨_, rfl, ?_⟩) | ((with_reducible refine gate_builtin (b := .append) (xs := #[.tmp 27, .tmp 29]) rfl ?_); at_builtin; refine Kd.R_append (Kd.int .i64) w.heap.size rfl (.tmp 27) (.tmp 29) 22 3 (.int .i64 0) 8 rfl Try.underlying22 info3 rfl (by decide) (by omega) (.slice Ao14 x5_1.length co14) x5_1 (Int.tmod x6_1 a1) [.int .i64 (Int.tmod x6_1 a1)] (fun _ => True) (fun _ => False) rfl rfl ?aP (fun _ hk => hk.elim) ?aF ?aO (Below.refl _ _) ?aS ?aL ?_; (case aP => exact rfl); (case aF => exact (fun _ _ => trivial)); (case aO => exact (ru HO_5.out)); (case aS => exact (keep_size (w := w) (g := g) (row := none) z96_3)); (case aL => have := LMc13.out; omega); intro v907 w16 ho hb hg hat; rw [← Ny906.out] at ho; have n0_ := am_ (IsS116.grown z96_4 hg (IsS116.own_ne HI0.out HO_5.out (by decide))); have n1_ := am_ (below_weaken z96_5 HL.out hb); have n2_ := am_ (KeepBut.trans z96_3 (KeepBut.of_grown hg g) (Kd.R_base2 HO_5.out)); have n3_ := am_ (ho); clear HI0 HB HK HO_5; have HI0 := n0_; have HB := n1_; have HK := n2_; have HO908 := n3_; clear n0_ n1_ n2_ n3_; clear ho hb hg hat))
      go_roundg k1
      case measure => have := HK1.out; omega
      case rel => exact ⟨(y906), (wrap64 (x6_1 + 1)), (t904), z96_1, H', ⟨by have := HK1.out; omega⟩, ⟨ru HO908.out⟩, ⟨z96_4⟩, ⟨z96_3⟩, ⟨z96_5⟩⟩
     rw [if_neg c13] at H
     exact absurd H (by simp)
    rw [if_neg c7] at H
    have c7b0 : decide (20 < x6_1) = false := decide_eq_false c7
    clear c7
    replace H := Option.bind_eq_some_iff.mp H
    obtain ⟨t909, A170, H⟩ := H
    replace H : (if t909 = true then (spec_l71Row.l0 k1 a1 x5_1 (wrap64 (x6_1 + 1)) s0_0 t904) else (if x5_1.length < 17592186044416 then (spec_l71Row.l0 k1 a1 (x5_1 ++ [t903]) (wrap64 (x6_1 + 1)) s0_0 t904) else (none))) = some (r1, r2) := H
    have A17 := am_ A170
    clear A170
    by_cases c18 : t909 = true
    ·subst c18
     have H1 : (spec_l71Row.l0 k1 a1 x5_1 (wrap64 (x6_1 + 1)) s0_0 t904) = some (r1, r2) := by rw [if_pos rfl] at H; exact H
     clear H
     have H := H1
     clear H1
     have H' := am_ H
     clear H
     obtain ⟨Ao19, co19, eo19⟩ := Kd.R_slice HO_5.out
     subst eo19
     go_wp2_with (first | ((with_reducible refine gate_callee (f := 71) rfl ?_); refine goesL_ (some 17) rfl rfl Try.func71 (by kernel_rfl) rfl #[.pointer (some ⟨g, 0, none⟩), .int .i64 a1] rfl (by (try simp only [List.map_toArray, List.map_cons, List.map_nil]); first | done | rfl | (simp only [List.length_drop, List.length_take]; rfl)) ?_; (with_reducible refine (spec_l6Rd_pick.calls k1 g s0_0 x00_1 a1 t903 t904 w0 _ ?side1 ?side2 A6.out).mono ?_); (case side1 => repeat (first | (with_reducible first | exact HI0.out | apply IsS116.alloc | apply IsS116.drewN | apply IsS116.drew | apply IsS116.set_1) | exact HI0.out)); (case side2 => repeat (first | (with_reducible first | exact HB.out | apply below_alloc | apply pw_below_drewN | apply below_drew1 | refine below_set ?_ (IsS116.ge HI0.out)) | exact HB.out)); rintro e w20 ⟨rfl, hi, hb, hk⟩; refine ⟨_, rfl, ?_⟩; replace HO_5 := am_ (Kd.R_mono (Kd.R_keep (IsS116.apart (show IsS116 w0 _ g s0_0 x00_1 from by repeat (first | (with_reducible first | exact HI0.out | apply IsS116.alloc | apply IsS116.drewN | apply IsS116.drew | apply IsS116.set_1) | exact HI0.out)) (ru HO_5.out) (by decide)) hk (fun _ h => h.2)) (fun _ h => h.1)); replace HK := am_ (KeepBut.trans z96_3 hk (.inl rfl)); replace HB := am_ (hb); replace HI0 := am_ (hi); (try clear hb); (try clear hb2); (try clear hk); (try clear hi)) | ((with_reducible refine gate_callee (f := 101) rfl ?_); refine goesL_ (some 25) rfl rfl Try.func101 (by kernel_rfl) rfl #[.slice Ao19 x5_1.length co19, .int .i64 t903] rfl (by (try simp only [List.map_toArray, List.map_cons, List.map_nil]); first | done | rfl | (simp only [List.length_drop, List.length_take]; rfl)) ?_; (with_reducible refine (spec_l12Has.calls k1 _ _ x5_1 t903 true _ ?side1 ?side2 A17.out).mono ?_); (case side1 => repeat (first | exact (Kd.R_reads' HO_5.out).2.2 | (with_reducible refine Kd.C_alloc ?_ _) | (with_reducible refine Kd.C_drewN ?_ _) | (with_reducible refine Kd.C_drew ?_))); (case side2 => exact (Kd.R_reads' HO_5.out).2.1); rintro e w' ⟨rfl, ⟨nd, rfl⟩⟩; refine ⟨_, rfl, ?_⟩))
     go_roundg k1
     case measure => have := HK1.out; omega
     case rel => exact ⟨(x5_1), (wrap64 (x6_1 + 1)), (t904), z96_1, H', ⟨by have := HK1.out; omega⟩, ⟨ru HO_5.out⟩, ⟨z96_4⟩, ⟨z96_3⟩, ⟨z96_5⟩⟩
    replace c18 := Bool.eq_false_iff.mpr c18
    subst c18
    have H1 : (if x5_1.length < 17592186044416 then (spec_l71Row.l0 k1 a1 (x5_1 ++ [t903]) (wrap64 (x6_1 + 1)) s0_0 t904) else (none)) = some (r1, r2) := by rw [if_neg (show ¬ (false = true) by decide)] at H; exact H
    clear H
    have H := H1
    clear H1
    by_cases c21 : x5_1.length < 17592186044416
    ·rw [if_pos c21] at H
     have LMc21 := am_ c21
     clear c21
     obtain ⟨y910, hy910⟩ : ∃ y_ : List Int, y_ = (x5_1 ++ [t903]) := ⟨_, rfl⟩
     replace H : (spec_l71Row.l0 k1 a1 y910 (wrap64 (x6_1 + 1)) s0_0 t904) = some (r1, r2) := by first | (rw [hy910]; with_reducible exact H) | (have H2_ := (Option.bind_some _ _).symm.trans H; rw [hy910]; with_reducible exact H2_) | (have H2_ := (Option.bind_some _ _).symm.trans H; with_reducible exact H2_) | with_reducible exact H | (rw [hy910]; exact H) | exact H
     have Ny910 := am_ hy910
     clear hy910
     have H' := am_ H
     clear H
     obtain ⟨Ao22, co22, eo22⟩ := Kd.R_slice HO_5.out
     subst eo22
     go_wp2_with (first | ((with_reducible refine gate_callee (f := 71) rfl ?_); refine goesL_ (some 17) rfl rfl Try.func71 (by kernel_rfl) rfl #[.pointer (some ⟨g, 0, none⟩), .int .i64 a1] rfl (by (try simp only [List.map_toArray, List.map_cons, List.map_nil]); first | done | rfl | (simp only [List.length_drop, List.length_take]; rfl)) ?_; (with_reducible refine (spec_l6Rd_pick.calls k1 g s0_0 x00_1 a1 t903 t904 w0 _ ?side1 ?side2 A6.out).mono ?_); (case side1 => repeat (first | (with_reducible first | exact HI0.out | apply IsS116.alloc | apply IsS116.drewN | apply IsS116.drew | apply IsS116.set_1) | exact HI0.out)); (case side2 => repeat (first | (with_reducible first | exact HB.out | apply below_alloc | apply pw_below_drewN | apply below_drew1 | refine below_set ?_ (IsS116.ge HI0.out)) | exact HB.out)); rintro e w23 ⟨rfl, hi, hb, hk⟩; refine ⟨_, rfl, ?_⟩; replace HO_5 := am_ (Kd.R_mono (Kd.R_keep (IsS116.apart (show IsS116 w0 _ g s0_0 x00_1 from by repeat (first | (with_reducible first | exact HI0.out | apply IsS116.alloc | apply IsS116.drewN | apply IsS116.drew | apply IsS116.set_1) | exact HI0.out)) (ru HO_5.out) (by decide)) hk (fun _ h => h.2)) (fun _ h => h.1)); replace HK := am_ (KeepBut.trans z96_3 hk (.inl rfl)); replace HB := am_ (hb); replace HI0 := am_ (hi); (try clear hb); (try clear hb2); (try clear hk); (try clear hi)) | ((with_reducible refine gate_callee (f := 101) rfl ?_); refine goesL_ (some 25) rfl rfl Try.func101 (by kernel_rfl) rfl #[.slice Ao22 x5_1.length co22, .int .i64 t903] rfl (by (try simp only [List.map_toArray, List.map_cons, List.map_nil]); first | done | rfl | (simp only [List.length_drop, List.length_take]; rfl)) ?_; (with_reducible refine (spec_l12Has.calls k1 _ _ x5_1 t903 false _ ?side1 ?side2 A17.out).mono ?_); (case side1 => repeat (first | exact (Kd.R_reads' HO_5.out).2.2 | (with_reducible refine Kd.C_alloc ?_ _) | (with_reducible refine Kd.C_drewN ?_ _) | (with_reducible refine Kd.C_drew ?_))); (case side2 => exact (Kd.R_reads' HO_5.out).2.1); rintro e w' ⟨rfl, ⟨nd, rfl⟩⟩; refine ⟨_, rfl, ?_⟩) | ((with_reducible refine gate_builtin (b := .append) (xs := #[.tmp 27, .tmp 29]) rfl ?_); at_builtin; refine Kd.R_append (Kd.int .i64) w.heap.size rfl (.tmp 27) (.tmp 29) 22 3 (.int .i64 0) 8 rfl Try.underlying22 info3 rfl (by decide) (by omega) (.slice Ao22 x5_1.length co22) x5_1 t903 [.int .i64 t903] (fun _ => True) (fun _ => False) rfl rfl ?aP (fun _ hk => hk.elim) ?aF ?aO (Below.refl _ _) ?aS ?aL ?_; (case aP => exact rfl); (case aF => exact (fun _ _ => trivial)); (case aO => exact (ru HO_5.out)); (case aS => exact (keep_size (w := w) (g := g) (row := none) z96_3)); (case aL => have := LMc21.out; omega); intro v911 w24 ho hb hg hat; rw [← Ny910.out] at ho; have n0_ := am_ (IsS116.grown z96_4 hg (IsS116.own_ne HI0.out HO_5.out (by decide))); have n1_ := am_ (below_weaken z96_5 HL.out hb); have n2_ := am_ (KeepBut.trans z96_3 (KeepBut.of_grown hg g) (Kd.R_base2 HO_5.out)); have n3_ := am_ (ho); clear HI0 HB HK HO_5; have HI0 := n0_; have HB := n1_; have HK := n2_; have HO912 := n3_; clear n0_ n1_ n2_ n3_; clear ho hb hg hat))
     go_roundg k1
     case measure => have := HK1.out; omega
     case rel => exact ⟨(y910), (wrap64 (x6_1 + 1)), (t904), z96_1, H', ⟨by have := HK1.out; omega⟩, ⟨ru HO912.out⟩, ⟨z96_4⟩, ⟨z96_3⟩, ⟨z96_5⟩⟩
    rw [if_neg c21] at H
    exact absurd H (by simp)
   rw [if_neg c5] at H
   have c5b0 : decide ((x5_1.length : Int) < a1) = false := decide_eq_false c5
   clear c5
   replace H := Option.bind_eq_some_iff.mp H
   obtain ⟨⟨t913, t914⟩, A250, H⟩ := H
   replace H : (if t913 = 0 then ((spec_l6Rd_pick.f k1 s0_0 t914 3).bind fun bt915 => (if x5_1.length < 17592186044416 then (some ((x5_1 ++ [bt915.1]), bt915.2)) else (none))) else (some (x5_1, t914))) = some (r1, r2) := H
   have A25 := am_ A250
   clear A250
   by_cases c26 : t913 = 0
   ·rw [if_pos c26] at H
    have c26b0 : (t913 == 0) = true := beq_iff_eq.mpr c26
    have c26b1 : (t913 != 0) = false := bne_eq_false_iff_eq.mpr c26
    clear c26
    replace H := Option.bind_eq_some_iff.mp H
    obtain ⟨⟨t915, t916⟩, A270, H⟩ := H
    replace H : (if x5_1.length < 17592186044416 then (some ((x5_1 ++ [t915]), t916)) else (none)) = some (r1, r2) := H
    have A27 := am_ A270
    clear A270
    by_cases c28 : x5_1.length < 17592186044416
    ·rw [if_pos c28] at H
     have LMc28 := am_ c28
     clear c28
     obtain ⟨y917, hy917⟩ : ∃ y_ : List Int, y_ = (x5_1 ++ [t915]) := ⟨_, rfl⟩
     replace H : (some (y917, t916)) = some (r1, r2) := by first | (rw [hy917]; with_reducible exact H) | (have H2_ := (Option.bind_some _ _).symm.trans H; rw [hy917]; with_reducible exact H2_) | (have H2_ := (Option.bind_some _ _).symm.trans H; with_reducible exact H2_) | with_reducible exact H | (rw [hy917]; exact H) | exact H
     have Ny917 := am_ hy917
     clear hy917
     simp only [Option.some.injEq, Prod.mk.injEq] at H
     obtain ⟨rfl, rfl⟩ := H
     obtain ⟨Ao29, co29, eo29⟩ := Kd.R_slice HO_5.out
     subst eo29
     go_wp2_with (first | ((with_reducible refine gate_callee (f := 71) rfl ?_); refine goesL_ (some 32) rfl rfl Try.func71 (by kernel_rfl) rfl #[.pointer (some ⟨g, 0, none⟩), .int .i64 20] rfl (by (try simp only [List.map_toArray, List.map_cons, List.map_nil]); first | done | rfl | (simp only [List.length_drop, List.length_take]; rfl)) ?_; (with_reducible refine (spec_l6Rd_pick.calls k1 g s0_0 x00_1 20 t913 t914 w0 _ ?side1 ?side2 A25.out).mono ?_); (case side1 => repeat (first | (with_reducible first | exact HI0.out | apply IsS116.alloc | apply IsS116.drewN | apply IsS116.drew | apply IsS116.set_1) | exact HI0.out)); (case side2 => repeat (first | (with_reducible first | exact HB.out | apply below_alloc | apply pw_below_drewN | apply below_drew1 | refine below_set ?_ (IsS116.ge HI0.out)) | exact HB.out)); rintro e w30 ⟨rfl, hi, hb, hk⟩; refine ⟨_, rfl, ?_⟩; replace HO_5 := am_ (Kd.R_mono (Kd.R_keep (IsS116.apart (show IsS116 w0 _ g s0_0 x00_1 from by repeat (first | (with_reducible first | exact HI0.out | apply IsS116.alloc | apply IsS116.drewN | apply IsS116.drew | apply IsS116.set_1) | exact HI0.out)) (ru HO_5.out) (by decide)) hk (fun _ h => h.2)) (fun _ h => h.1)); replace HK := am_ (KeepBut.trans z96_3 hk (.inl rfl)); replace HB := am_ (hb); replace HI0 := am_ (hi); (try clear hb); (try clear hb2); (try clear hk); (try clear hi)) | ((with_reducible refine gate_callee (f := 71) rfl ?_); refine goesL_ (some 36) rfl rfl Try.func71 (by kernel_rfl) rfl #[.pointer (some ⟨g, 0, none⟩), .int .i64 3] rfl (by (try simp only [List.map_toArray, List.map_cons, List.map_nil]); first | done | rfl | (simp only [List.length_drop, List.length_take]; rfl)) ?_; (with_reducible refine (spec_l6Rd_pick.calls k1 g s0_0 t914 3 t915 t916 w0 _ ?side1 ?side2 A27.out).mono ?_); (case side1 => repeat (first | (with_reducible first | exact HI0.out | apply IsS116.alloc | apply IsS116.drewN | apply IsS116.drew | apply IsS116.set_1) | exact HI0.out)); (case side2 => repeat (first | (with_reducible first | exact HB.out | apply below_alloc | apply pw_below_drewN | apply below_drew1 | refine below_set ?_ (IsS116.ge HI0.out)) | exact HB.out)); rintro e w31 ⟨rfl, hi, hb, hk⟩; refine ⟨_, rfl, ?_⟩; replace HO_5 := am_ (Kd.R_mono (Kd.R_keep (IsS116.apart (show IsS116 w0 _ g s0_0 t914 from by repeat (first | (with_reducible first | exact HI0.out | apply IsS116.alloc | apply IsS116.drewN | apply IsS116.drew | apply IsS116.set_1) | exact HI0.out)) (ru HO_5.out) (by decide)) hk (fun _ h => h.2)) (fun _ h => h.1)); replace HK := am_ (KeepBut.trans z96_3 hk (.inl rfl)); replace HB := am_ (hb); replace HI0 := am_ (hi); (try clear hb); (try clear hb2); (try clear hk); (try clear hi)) | ((with_reducible refine gate_builtin (b := .append) (xs := #[.tmp 34, .tmp 37]) rfl ?_); at_builtin; refine Kd.R_append (Kd.int .i64) w.heap.size rfl (.tmp 34) (.tmp 37) 22 3 (.int .i64 0) 8 rfl Try.underlying22 info3 rfl (by decide) (by omega) (.slice Ao29 x5_1.length co29) x5_1 t915 [.int .i64 t915] (fun _ => True) (fun _ => False) rfl rfl ?aP (fun _ hk => hk.elim) ?aF ?aO (Below.refl _ _) ?aS ?aL ?_; (case aP => exact rfl); (case aF => exact (fun _ _ => trivial)); (case aO => exact (ru HO_5.out)); (case aS => exact (keep_size (w := w) (g := g) (row := none) z96_3)); (case aL => have := LMc28.out; omega); intro v918 w32 ho hb hg hat; rw [← Ny917.out] at ho; have n0_ := am_ (IsS116.grown z96_4 hg (IsS116.own_ne HI0.out HO_5.out (by decide))); have n1_ := am_ (below_weaken z96_5 HL.out hb); have n2_ := am_ (KeepBut.trans z96_3 (KeepBut.of_grown hg g) (Kd.R_base2 HO_5.out)); have n3_ := am_ (ho); clear HI0 HB HK HO_5; have HI0 := n0_; have HB := n1_; have HK := n2_; have HO919 := n3_; clear n0_ n1_ n2_ n3_; clear ho hb hg hat))
     go_ret
     exact ⟨_, z96_2, ru HO919.out, z96_4, z96_5, z96_3⟩
    rw [if_neg c28] at H
    exact absurd H (by simp)
   rw [if_neg c26] at H
   have c26b0 : (t913 == 0) = false := beq_eq_false_iff_ne.mpr c26
   have c26b1 : (t913 != 0) = true := bne_iff_ne.mpr c26
   simp only [Option.some.injEq, Prod.mk.injEq] at H
   obtain ⟨rfl, rfl⟩ := H
   obtain ⟨Ao33, co33, eo33⟩ := Kd.R_slice HO_5.out
   subst eo33
   go_wp2_with (first | ((with_reducible refine gate_callee (f := 71) rfl ?_); refine goesL_ (some 32) rfl rfl Try.func71 (by kernel_rfl) rfl #[.pointer (some ⟨g, 0, none⟩), .int .i64 20] rfl (by (try simp only [List.map_toArray, List.map_cons, List.map_nil]); first | done | rfl | (simp only [List.length_drop, List.length_take]; rfl)) ?_; (with_reducible refine (spec_l6Rd_pick.calls k1 g s0_0 x00_1 20 t913 t914 w0 _ ?side1 ?side2 A25.out).mono ?_); (case side1 => repeat (first | (with_reducible first | exact HI0.out | apply IsS116.alloc | apply IsS116.drewN | apply IsS116.drew | apply IsS116.set_1) | exact HI0.out)); (case side2 => repeat (first | (with_reducible first | exact HB.out | apply below_alloc | apply pw_below_drewN | apply below_drew1 | refine below_set ?_ (IsS116.ge HI0.out)) | exact HB.out)); rintro e w34 ⟨rfl, hi, hb, hk⟩; refine ⟨_, rfl, ?_⟩; replace HO_5 := am_ (Kd.R_mono (Kd.R_keep (IsS116.apart (show IsS116 w0 _ g s0_0 x00_1 from by repeat (first | (with_reducible first | exact HI0.out | apply IsS116.alloc | apply IsS116.drewN | apply IsS116.drew | apply IsS116.set_1) | exact HI0.out)) (ru HO_5.out) (by decide)) hk (fun _ h => h.2)) (fun _ h => h.1)); replace HK := am_ (KeepBut.trans z96_3 hk (.inl rfl)); replace HB := am_ (hb); replace HI0 := am_ (hi); (try clear hb); (try clear hb2); (try clear hk); (try clear hi)))
   go_ret
   exact ⟨_, z96_2, ru HO_5.out, z96_4, z96_5, z96_3⟩

end Go.Proofs.Ytefkbmhkhpekjaa.PB

namespace Go.Proofs.Ytefkbmhkhpekjaa.Pure
open Go.RowKit Go.Proofs.Ytefkbmhkhpekjaa.PB Go.Proofs.YtefkbmhkhpekjaaW.PrintWords Go.Proofs.YtefkbmhkhpekjaaW.PrintLast
set_option linter.unusedVariables false

theorem full_len (l : List Int) (n : Int) (h1 : 1 ≤ n) (h3 : n ≤ 3) (h : ∀ r : Int, 0 ≤ r → r < n → hasB l r = true) : n ≤ (l.length : Int) := by
  match l, h with
  | [], h => have := h 0 (by omega) (by omega); simp [hasB] at this
  | [a], h =>
    by_cases hn : n = 1
    · simp; omega
    · have e0 := h 0 (by omega) (by omega)
      have e1 := h 1 (by omega) (by omega)
      simp [hasB] at e0 e1
      omega
  | [a, b], h =>
    by_cases hn : n ≤ 2
    · simp; omega
    · have e0 := h 0 (by omega) (by omega)
      have e1 := h 1 (by omega) (by omega)
      have e2 := h 2 (by omega) (by omega)
      simp [hasB] at e0 e1 e2
      omega
  | a :: b :: c :: l, h => simp; omega
theorem row_l (b : List Int) (hb : Rd b) (n : Int) (h1 : 1 ≤ n) (h3 : n ≤ 3) : ∀ (m : Nat) (out : List Int) (s : Int), m ≤ 24 → out.length + m ≤ 30 → 0 ≤ s → s + (m : Int) ≤ 700000 → (∀ q : Int, 21 ≤ q → q < 24 - (m : Int) → hasB out (Int.tmod q n) = true) →
    DR (fun k => spec_l71Row.l0 k n out (24 - (m : Int)) b s) s ((m : Int) + 2) (fun r => r.length ≤ 31)
  | m, out, s, hm, hl, h0, hs, hq => by
    by_cases hlt : (out.length : Int) < n
    · match m, hm, hl, hs, hq with
      | 0, _, _, _, hq =>
        exfalso
        have hf := full_len out n h1 h3 (fun r r0 r1 => by
          have a1 := hq 21 (by omega) (by omega)
          have a2 := hq 22 (by omega) (by omega)
          have a3 := hq 23 (by omega) (by omega)
          have hn : n = 1 ∨ n = 2 ∨ n = 3 := by omega
          rcases hn with rfl | rfl | rfl
          · have : r = 0 := by omega
            subst this; exact a1
          · have : r = 0 ∨ r = 1 := by omega
            rcases this with rfl | rfl
            · exact a2
            · exact a1
          · have : r = 0 ∨ r = 1 ∨ r = 2 := by omega
            rcases this with rfl | rfl | rfl
            · exact a1
            · exact a2
            · exact a3)
        omega
      | m + 1, hm, hl, hs, hq =>
        refine DR.succ ?_
        simp only [spec_l71Row.l0, if_pos hlt]
        refine (DR.bind (c := 1) (c' := (m : Int) + 2) (pick_dr hb s n h0 (by omega) h1) ?_).more (by omega) (fun _ h => h)
        intro r s1 g0 g1 hr
        have hw : wrap64 (24 - ((m + 1 : Nat) : Int) + 1) = 24 - (m : Int) := by rw [w64' (by omega) (by omega)]; omega
        have next : ∀ (y : Int), (24 - ((m + 1 : Nat) : Int) > 20 → y = Int.tmod (24 - ((m + 1 : Nat) : Int)) n) → DR (fun k => (spec_l12Has.f k out y).bind fun t => if t = true then spec_l71Row.l0 k n out (wrap64 (24 - ((m + 1 : Nat) : Int) + 1)) b s1 else if out.length < 17592186044416 then spec_l71Row.l0 k n (out ++ [y]) (wrap64 (24 - ((m + 1 : Nat) : Int) + 1)) b s1 else none) s1 ((m : Int) + 2) (fun r => r.length ≤ 31) := by
          intro y hy
          refine DR.ev (sHas out (by omega) y) ?_
          rw [hw]
          cases hh : hasB out y
          · simp only [Bool.false_eq_true, if_false, if_pos (show out.length < 17592186044416 by omega)]
            refine row_l b hb n h1 h3 m (out ++ [y]) s1 (by omega) (by simp; omega) (by omega) (by omega) (fun q q0 q1 => ?_)
            by_cases hc : q < 24 - ((m + 1 : Nat) : Int)
            · exact hasB_append _ _ _ (hq q q0 hc)
            · obtain rfl : q = 24 - ((m + 1 : Nat) : Int) := by omega
              rw [← hy (by omega)]
              exact hasB_last _ _
          · simp only [if_true]
            refine row_l b hb n h1 h3 m out s1 (by omega) (by omega) (by omega) (by omega) (fun q q0 q1 => ?_)
            by_cases hc : q < 24 - ((m + 1 : Nat) : Int)
            · exact hq q q0 hc
            · obtain rfl : q = 24 - ((m + 1 : Nat) : Int) := by omega
              rw [← hy (by omega)]
              exact hh
        dsimp only
        by_cases hc : 24 - ((m + 1 : Nat) : Int) > 20
        · simp only [if_pos hc, if_neg (show ¬ n = 0 by omega)]
          exact next _ (fun _ => rfl)
        · simp only [if_neg hc]
          exact next r (fun h => absurd h hc)
    · refine DR.succ ?_
      simp only [spec_l71Row.l0, if_neg hlt]
      refine (DR.bind (c := 1) (c' := 1) (pick_dr hb s 20 h0 (by omega) (by omega)) ?_).more (by omega) (fun _ h => h)
      intro r s1 g0 g1 hr
      dsimp only
      by_cases hc : r = 0
      · simp only [if_pos hc]
        refine (DR.bind (c := 1) (c' := 0) (pick_dr hb s1 3 (by omega) (by omega) (by omega)) ?_).more (by omega) (fun _ h => h)
        intro r2 s2 g2 g3 _
        simp only [if_pos (show out.length < 17592186044416 by omega)]
        exact DR.ret (by omega) (by simp; omega)
      · simp only [if_neg hc]
        exact DR.ret (by omega) (by omega)
theorem row_dr {b : List Int} (hb : Rd b) (s n : Int) (h0 : 0 ≤ s) (hs : s ≤ 600000) (h1 : 1 ≤ n) (h3 : n ≤ 3) : DR (fun k => spec_l71Row.f k b s n) s 26 (fun r => r.length ≤ 31) :=
  row_l b hb n h1 h3 24 [] s (by omega) (by simp) h0 (by omega) (fun q h h' => by omega)
end Go.Proofs.Ytefkbmhkhpekjaa.Pure

namespace Go.Proofs.Ytefkbmhkhpekjaa.Pure
open Go.RowKit Go.Proofs.Ytefkbmhkhpekjaa.PB Go.Proofs.YtefkbmhkhpekjaaW.PrintWords Go.Proofs.YtefkbmhkhpekjaaW.PrintLast
set_option linter.unusedVariables false

theorem readsOfL (t : List S85) (ht : t.length ≤ 1048576) : ∀ (m : Nat) (n : Int), m ≤ t.length → 0 ≤ n → n + (m : Int) ≤ 100000000000 → Ev (fun k => impl_readsOf.l0 k n t (t.length : Int) ((t.length - m : Nat) : Int)) (n + readsI (t.drop (t.length - m)))
  | 0, n, _, _, _ => by
    refine Ev.succ (Ev.now fun k => ?_)
    simp [impl_readsOf.l0, readsI]
  | m + 1, n, hm, h0, h1 => by
    have hlt : t.length - (m + 1) < t.length := by omega
    have hd : t.drop (t.length - (m + 1)) = t[t.length - (m + 1)] :: t.drop (t.length - m) := by
      rw [List.drop_eq_getElem_cons hlt, show t.length - (m + 1) + 1 = t.length - m by omega]
    rw [hd]
    refine Ev.succ ?_
    simp only [impl_readsOf.l0, rd_T85_get hlt, iReads, Option.bind_some, readsI]
    simp only [if_pos (show ((t.length - (m + 1) : Nat) : Int) < (t.length : Int) by omega), if_pos (show (0 : Int) ≤ ((t.length - (m + 1) : Nat) : Int) by omega)]
    rw [w64' (x := ((t.length - (m + 1) : Nat) : Int) + 1) (by omega) (by omega), w64' (x := n + 1) (by omega) (by omega), show ((t.length - (m + 1) : Nat) : Int) + 1 = ((t.length - m : Nat) : Int) by omega]
    generalize t[t.length - (m + 1)] = d at *
    cases hr : rdB d.f0
    · simp only [Bool.false_eq_true, if_false]
      exact (readsOfL t ht m n (by omega) h0 (by omega)).of (by omega)
    · simp only [if_true]
      exact (readsOfL t ht m (n + 1) (by omega) (by omega) (by omega)).of (by omega)
theorem readsOf (t : List S85) (ht : t.length ≤ 1048576) : Ev (fun k => impl_readsOf.f k t) (readsI t) := by
  have := readsOfL t ht t.length 0 (Nat.le_refl _) (by omega) (by omega)
  rw [Nat.sub_self] at this
  exact this.of (by simp)
theorem readsL (p : List (List S85)) (hp : Short p) : ∀ (m : Nat) (n : Int), m ≤ p.length → 0 ≤ n → n + 1048576 * (m : Int) ≤ 100000000000 → Ev (fun k => impl_ProgReads.l0 k n p (p.length : Int) ((p.length - m : Nat) : Int)) (n + readsP (p.drop (p.length - m)))
  | 0, n, _, _, _ => by
    refine Ev.succ (Ev.now fun k => ?_)
    simp [impl_ProgReads.l0, readsP]
  | m + 1, n, hm, h0, h1 => by
    have hlt : p.length - (m + 1) < p.length := by omega
    have hd : p.drop (p.length - (m + 1)) = p[p.length - (m + 1)] :: p.drop (p.length - m) := by
      rw [List.drop_eq_getElem_cons hlt, show p.length - (m + 1) + 1 = p.length - m by omega]
    have hl := hp.at hlt
    have hp1 := hp.1
    have hr := readsI_le p[p.length - (m + 1)]
    rw [hd]
    refine Ev.succ ?_
    simp only [impl_ProgReads.l0, rd_L7_get hlt, readsP]
    simp only [if_pos (show ((p.length - (m + 1) : Nat) : Int) < (p.length : Int) by omega), if_pos (show (0 : Int) ≤ ((p.length - (m + 1) : Nat) : Int) by omega)]
    refine Ev.bind (readsOf _ hl) ?_
    rw [w64' (x := ((p.length - (m + 1) : Nat) : Int) + 1) (by omega) (by omega), w64' (by omega) (by omega), show ((p.length - (m + 1) : Nat) : Int) + 1 = ((p.length - m : Nat) : Int) by omega]
    exact (readsL p hp m _ (by omega) (by omega) (by omega)).of (by omega)
theorem progReads (p : List (List S85)) (hp : Short p) : Ev (fun k => impl_ProgReads.f k p) (if okP p = true then readsP p else -1) := by
  unfold impl_ProgReads.f
  refine Ev.bind (iProg p hp) ?_
  by_cases h : okP p = true
  · simp only [if_pos h]
    have := readsL p hp p.length 0 (Nat.le_refl _) (by omega) (by have := hp.1; omega)
    rw [Nat.sub_self] at this
    exact this.of (by simp)
  · simp only [if_neg h]
    exact Ev.const
end Go.Proofs.Ytefkbmhkhpekjaa.Pure

namespace Go.Proofs.Ytefkbmhkhpekjaa.PB
open Go.RowKit Go.Proofs.YtefkbmhkhpekjaaW.PrintWords Go.Proofs.YtefkbmhkhpekjaaW.PrintLast Go.Proofs.YtefkbmhkhpekjaaW.PrintMore
attribute [local go_sem] max2_int min2_int max_two min_two max_three min_three max_four min_four   -- for this text's walks alone
open Go.Proofs.YtefkbmhkhpekjaaMine
set_option linter.unusedVariables false
set_option linter.unusedSimpArgs false

/-! ### laws_eqDo: function 132 -/
end Go.Proofs.Ytefkbmhkhpekjaa.PB

namespace Go.Proofs.Ytefkbmhkhpekjaa.PB
open Go.RowKit Go.Proofs.YtefkbmhkhpekjaaW.PrintWords Go.Proofs.YtefkbmhkhpekjaaW.PrintLast Go.Proofs.YtefkbmhkhpekjaaW.PrintMore
attribute [local go_sem] max2_int min2_int max_two min_two max_three min_three max_four min_four   -- for this text's walks alone
open Go.Proofs.YtefkbmhkhpekjaaMine
set_option linter.unusedVariables false
set_option linter.unusedSimpArgs false

/-! ### laws_eqDoS: function 117 -/
end Go.Proofs.Ytefkbmhkhpekjaa.PB

namespace Go.Proofs.Ytefkbmhkhpekjaa.PB
open Go.RowKit Go.Proofs.YtefkbmhkhpekjaaW.PrintWords Go.Proofs.YtefkbmhkhpekjaaW.PrintLast Go.Proofs.YtefkbmhkhpekjaaW.PrintMore
attribute [local go_sem] max2_int min2_int max_two min_two max_three min_three max_four min_four   -- for this text's walks alone
open Go.Proofs.YtefkbmhkhpekjaaMine
set_option linter.unusedVariables false
set_option linter.unusedSimpArgs false

/-! ### laws_eqDoSS: function 79 -/
end Go.Proofs.Ytefkbmhkhpekjaa.PB

namespace Go.Proofs.Ytefkbmhkhpekjaa.PB
open Go.RowKit Go.Proofs.YtefkbmhkhpekjaaW.PrintWords Go.Proofs.YtefkbmhkhpekjaaW.PrintLast Go.Proofs.YtefkbmhkhpekjaaW.PrintMore
attribute [local go_sem] max2_int min2_int max_two min_two max_three min_three max_four min_four   -- for this text's walks alone
open Go.Proofs.YtefkbmhkhpekjaaMine
set_option linter.unusedVariables false
set_option linter.unusedSimpArgs false

/-! ### laws_eqProg: function 32 -/
end Go.Proofs.Ytefkbmhkhpekjaa.PB

namespace Go.Proofs.Ytefkbmhkhpekjaa.PB
open Go.RowKit Go.Proofs.YtefkbmhkhpekjaaW.PrintWords Go.Proofs.YtefkbmhkhpekjaaW.PrintLast Go.Proofs.YtefkbmhkhpekjaaW.PrintMore
attribute [local go_sem] max2_int min2_int max_two min_two max_three min_three max_four min_four   -- for this text's walks alone
open Go.Proofs.YtefkbmhkhpekjaaMine
set_option linter.unusedVariables false
set_option linter.unusedSimpArgs false

/-! ### laws_heldDoS: function 119 -/
end Go.Proofs.Ytefkbmhkhpekjaa.PB

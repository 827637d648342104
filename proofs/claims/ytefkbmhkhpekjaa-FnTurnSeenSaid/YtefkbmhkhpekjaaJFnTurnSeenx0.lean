-- Joined by wip/mclaim.py out of YtefkbmhkhpekjaaPBx54, YtefkbmhkhpekjaaPBx55, YtefkbmhkhpekjaaPBx56, YtefkbmhkhpekjaaExactRow, YtefkbmhkhpekjaaSeenOk, YtefkbmhkhpekjaaDrawTS, YtefkbmhkhpekjaaPBx20, YtefkbmhkhpekjaaSeenTurn, YtefkbmhkhpekjaaTurnOk, YtefkbmhkhpekjaaPBx49, YtefkbmhkhpekjaaTurnSpec, YtefkbmhkhpekjaaSeenBack
import Derived.Test.YtefkbmhkhpekjaaPBx0
import Derived.Test.YtefkbmhkhpekjaaJFnTurnSeenx3
import Derived.Test.YtefkbmhkhpekjaaJFnTurnSeenx5
import Derived.Test.YtefkbmhkhpekjaaJFnTurnSeenx6
import Derived.Test.YtefkbmhkhpekjaaJFnTurnSeenx2
import Derived.Test.YtefkbmhkhpekjaaJFnTurnSeenx1
import Derived.Test.YtefkbmhkhpekjaaPBx47
import Derived.Test.YtefkbmhkhpekjaaPBx53
import Derived.Test.YtefkbmhkhpekjaaJFnTurnSeenx4
import Derived.Test.YtefkbmhkhpekjaaPBx100
namespace Go.Proofs.Ytefkbmhkhpekjaa.PB
open Go.RowKit Go.Proofs.YtefkbmhkhpekjaaW.PrintWords Go.Proofs.YtefkbmhkhpekjaaW.PrintLast Go.Proofs.YtefkbmhkhpekjaaW.PrintMore
attribute [local go_sem] max2_int min2_int max_two min_two max_three min_three max_four min_four   -- for this text's walks alone
open Go.Proofs.YtefkbmhkhpekjaaMine
set_option linter.unusedVariables false
set_option linter.unusedSimpArgs false

/-! ### laws_toIntS: function 54 -/
end Go.Proofs.Ytefkbmhkhpekjaa.PB

namespace Go.Proofs.Ytefkbmhkhpekjaa.PB
open Go.RowKit Go.Proofs.YtefkbmhkhpekjaaW.PrintWords Go.Proofs.YtefkbmhkhpekjaaW.PrintLast Go.Proofs.YtefkbmhkhpekjaaW.PrintMore
attribute [local go_sem] max2_int min2_int max_two min_two max_three min_three max_four min_four   -- for this text's walks alone
open Go.Proofs.YtefkbmhkhpekjaaMine
set_option linter.unusedVariables false
set_option linter.unusedSimpArgs false

/-! ### laws_eqIntS: function 55 -/
end Go.Proofs.Ytefkbmhkhpekjaa.PB

namespace Go.Proofs.Ytefkbmhkhpekjaa.PB
open Go.RowKit Go.Proofs.YtefkbmhkhpekjaaW.PrintWords Go.Proofs.YtefkbmhkhpekjaaW.PrintLast Go.Proofs.YtefkbmhkhpekjaaW.PrintMore
attribute [local go_sem] max2_int min2_int max_two min_two max_three min_three max_four min_four   -- for this text's walks alone
open Go.Proofs.YtefkbmhkhpekjaaMine
set_option linter.unusedVariables false
set_option linter.unusedSimpArgs false

/-! ### laws_markIntS: function 56 -/
end Go.Proofs.Ytefkbmhkhpekjaa.PB

namespace Go.Proofs.Ytefkbmhkhpekjaa.Pure
open Go.RowKit Go.Proofs.Ytefkbmhkhpekjaa.PB Go.Proofs.YtefkbmhkhpekjaaW.PrintWords Go.Proofs.YtefkbmhkhpekjaaW.PrintLast
set_option linter.unusedVariables false

end Go.Proofs.Ytefkbmhkhpekjaa.Pure

namespace Go.Proofs.Ytefkbmhkhpekjaa.Pure
open Go.RowKit Go.Proofs.Ytefkbmhkhpekjaa.PB Go.Proofs.YtefkbmhkhpekjaaW.PrintWords Go.Proofs.YtefkbmhkhpekjaaW.PrintLast
set_option linter.unusedVariables false

theorem sReadsInner (p : List (List S85)) (x : Nat) (hx : x < p.length) (hl : p[x].length ≤ 1048576) (hp : p.length ≤ 1048576) (R : Int) : ∀ (m : Nat) (u : Int), m ≤ p[x].length → 0 ≤ u → u + (m : Int) ≤ 1000000000000 →
    Ev (fun k => spec_ProgReads.l0 k (u + readsI (p[x].drop (p[x].length - m))) ((x + 1 : Nat) : Int) p) R → Ev (fun k => spec_ProgReads.l1 k u x ((p[x].length - m : Nat) : Int) p) R
  | 0, u, _, _, _, h => by
    refine Ev.succ ?_
    simp only [spec_ProgReads.l1, rd_L7_get hx]
    rw [Nat.sub_zero, List.drop_length] at h
    simp only [readsI, Int.add_zero] at h
    simp only [if_pos (show (0 : Int) ≤ (x : Int) by omega), if_pos (show (x : Int) < (p.length : Int) by omega), Nat.sub_zero, Int.lt_irrefl, if_false]
    rw [w64' (by omega) (by omega)]
    exact h
  | m + 1, u, hm, h0, h1, h => by
    have hlt : p[x].length - (m + 1) < p[x].length := by omega
    have hd : p[x].drop (p[x].length - (m + 1)) = p[x][p[x].length - (m + 1)] :: p[x].drop (p[x].length - m) := by
      rw [List.drop_eq_getElem_cons hlt, show p[x].length - (m + 1) + 1 = p[x].length - m by omega]
    rw [hd] at h
    simp only [readsI] at h
    refine Ev.succ ?_
    simp only [spec_ProgReads.l1, rd_L7_get hx, rd_T85_get hlt, sReads, Option.bind_some]
    simp only [if_pos (show (0 : Int) ≤ (x : Int) by omega), if_pos (show (x : Int) < (p.length : Int) by omega), if_pos (show (((p[x].length - (m + 1) : Nat) : Int)) < (p[x].length : Int) by omega), if_pos (show (0 : Int) ≤ ((p[x].length - (m + 1) : Nat) : Int) by omega)]
    rw [w64' (x := ((p[x].length - (m + 1) : Nat) : Int) + 1) (by omega) (by omega), w64' (x := u + 1) (by omega) (by omega), show ((p[x].length - (m + 1) : Nat) : Int) + 1 = ((p[x].length - m : Nat) : Int) by omega]
    generalize p[x][p[x].length - (m + 1)] = d at *
    cases hr : rdB d.f0
    · rw [hr] at h
      simp only [Bool.false_eq_true, if_false, Int.zero_add] at h ⊢
      exact sReadsInner p x hx hl hp R m u (by omega) h0 (by omega) h
    · rw [hr] at h
      simp only [if_true] at h ⊢
      exact sReadsInner p x hx hl hp R m (u + 1) (by omega) (by omega) (by omega) (by rw [Int.add_assoc]; exact h)
theorem sReadsL (p : List (List S85)) (hp : Short p) : ∀ (m : Nat) (n : Int), m ≤ p.length → 0 ≤ n → n + 1048576 * (m : Int) ≤ 100000000000 → Ev (fun k => spec_ProgReads.l0 k n ((p.length - m : Nat) : Int) p) (n + readsP (p.drop (p.length - m)))
  | 0, n, _, _, _ => by
    refine Ev.succ (Ev.now fun k => ?_)
    simp [spec_ProgReads.l0, readsP]
  | m + 1, n, hm, h0, h1 => by
    have hlt : p.length - (m + 1) < p.length := by omega
    have hd : p.drop (p.length - (m + 1)) = p[p.length - (m + 1)] :: p.drop (p.length - m) := by
      rw [List.drop_eq_getElem_cons hlt, show p.length - (m + 1) + 1 = p.length - m by omega]
    have hl := hp.at hlt
    have hp1 := hp.1
    have hr := readsI_le p[p.length - (m + 1)]
    rw [hd]
    refine Ev.succ ?_
    simp only [spec_ProgReads.l0, readsP]
    simp only [if_pos (show ((p.length - (m + 1) : Nat) : Int) < (p.length : Int) by omega)]
    have := sReadsInner p (p.length - (m + 1)) hlt hl (by omega) (n + (readsI p[p.length - (m + 1)] + readsP (p.drop (p.length - m)))) p[p.length - (m + 1)].length n (Nat.le_refl _) h0 (by omega) (by
      rw [Nat.sub_self, List.drop_zero, show p.length - (m + 1) + 1 = p.length - m by omega]
      exact (sReadsL p hp m _ (by omega) (by omega) (by omega)).of (by omega))
    rw [Nat.sub_self] at this
    exact this
theorem sProgReads (p : List (List S85)) (hp : Short p) : Ev (fun k => spec_ProgReads.f k p) (if okP p = true then readsP p else -1) := by
  unfold spec_ProgReads.f
  refine Ev.bind (sProg p hp) ?_
  by_cases h : okP p = true
  · simp only [if_pos h]
    have := sReadsL p hp p.length 0 (Nat.le_refl _) (by omega) (by have := hp.1; omega)
    rw [Nat.sub_self] at this
    exact this.of (by simp)
  · simp only [if_neg h]
    exact Ev.const
theorem valB_eq (x : Int) : inR x 0 3 = valB x := rfl
theorem l2ValsL (l : List Int) (hl : l.length ≤ 1048576) : ∀ m : Nat, m ≤ l.length → Ev (fun k => spec_l2Vals.l0 k l ((l.length - m : Nat) : Int)) ((l.drop (l.length - m)).all valB)
  | 0, _ => by
    refine Ev.succ (Ev.now fun k => ?_)
    simp [spec_l2Vals.l0]
  | m + 1, hm => by
    have hlt : l.length - (m + 1) < l.length := by omega
    have hd : l.drop (l.length - (m + 1)) = l[l.length - (m + 1)] :: l.drop (l.length - m) := by
      rw [List.drop_eq_getElem_cons hlt, show l.length - (m + 1) + 1 = l.length - m by omega]
    have hr : rd l ((l.length - (m + 1) : Nat) : Int) = l[l.length - (m + 1)] := by
      unfold rd
      rw [Int.toNat_natCast, List.getD_eq_getElem?_getD, List.getElem?_eq_getElem hlt]
      rfl
    rw [hd, List.all_cons]
    refine Ev.succ ?_
    simp only [spec_l2Vals.l0, hr, sIn, Option.bind_some, valB_eq, if_pos (show ((l.length - (m + 1) : Nat) : Int) < (l.length : Int) by omega), if_pos (show (0 : Int) ≤ ((l.length - (m + 1) : Nat) : Int) by omega)]
    cases valB l[l.length - (m + 1)]
    · simp only [Bool.false_eq_true, if_false, Bool.false_and]
      exact Ev.const
    · simp only [if_true, Bool.true_and]
      rw [w64' (by omega) (by omega), show ((l.length - (m + 1) : Nat) : Int) + 1 = ((l.length - m : Nat) : Int) by omega]
      exact l2ValsL l hl m (by omega)
theorem l2Vals (l : List Int) (hl : l.length ≤ 1048576) : Ev (fun k => spec_l2Vals.f k l) (l.all valB) := by
  have := l2ValsL l hl l.length (Nat.le_refl _)
  rw [Nat.sub_self] at this
  exact this
def okS (p : List (List S85)) (sr sl : List Int) : Bool := okP p && decide ((sr.length : Int) = readsP p) && decide (sl.length = 3) && sr.all valB && sl.all valB
theorem iSeenOk (p : List (List S85)) (hp : Mid p) (sr sl : List Int) : Ev (fun k => impl_SeenOk.f k p sr sl) (okS p sr sl) := by
  unfold impl_SeenOk.f okS
  refine Ev.bind (iProgM p hp) ?_
  cases h : okP p
  · simp only [Bool.false_eq_true, if_false, Bool.false_and]
    exact Ev.const
  have h3 : p.length ≤ 3 := by
    unfold okP at h
    rw [Bool.and_eq_true, decide_eq_true_eq] at h
    exact h.1
  have hr := progReads p (hp.short h3)
  rw [if_pos h] at hr
  simp only [if_true, Bool.true_and]
  refine Ev.bind hr ?_
  by_cases h1 : (sr.length : Int) = readsP p
  · simp only [if_pos h1, decide_eq_true h1, Bool.true_and]
    by_cases h2 : (sl.length : Int) = 3
    · simp only [if_pos h2, decide_eq_true (show sl.length = 3 by omega), Bool.true_and, impl_valsOk.f, Option.bind_some]
      cases sr.all valB
      · simp only [Bool.false_eq_true, if_false, Bool.false_and]; exact Ev.const
      · simp only [if_true, Bool.true_and]; exact Ev.const
    · simp only [if_neg h2, decide_eq_false (show ¬ sl.length = 3 by omega), Bool.false_and]
      exact Ev.const
  · simp only [if_neg h1, decide_eq_false h1, Bool.false_and]
    exact Ev.const
theorem sSeenOk (p : List (List S85)) (hp : Mid p) (sr sl : List Int) (h4 : sr.length ≤ 1048576) (h5 : sl.length ≤ 1048576) : Ev (fun k => spec_SeenOk.f k p sr sl) (okS p sr sl) := by
  unfold spec_SeenOk.f okS
  refine Ev.bind (sProgM p hp) ?_
  cases h : okP p
  · simp only [Bool.false_eq_true, if_false, Bool.false_and]
    exact Ev.const
  have h3 : p.length ≤ 3 := by
    unfold okP at h
    rw [Bool.and_eq_true, decide_eq_true_eq] at h
    exact h.1
  have hr := sProgReads p (hp.short h3)
  rw [if_pos h] at hr
  simp only [if_true, Bool.true_and]
  refine Ev.bind hr ?_
  by_cases h1 : (sr.length : Int) = readsP p
  · simp only [if_pos h1, decide_eq_true h1, Bool.true_and]
    by_cases h2 : (sl.length : Int) = 3
    · simp only [if_pos h2, decide_eq_true (show sl.length = 3 by omega), Bool.true_and]
      refine Ev.bind (l2Vals sr h4) ?_
      cases sr.all valB
      · simp only [Bool.false_eq_true, if_false, Bool.false_and]; exact Ev.const
      · simp only [if_true, Bool.true_and]
        exact Ev.bind (l2Vals sl h5) Ev.const
    · simp only [if_neg h2, decide_eq_false (show ¬ sl.length = 3 by omega), Bool.false_and]
      exact Ev.const
  · simp only [if_neg h1, decide_eq_false h1, Bool.false_and]
    exact Ev.const
end Go.Proofs.Ytefkbmhkhpekjaa.Pure

namespace Go.Proofs.Ytefkbmhkhpekjaa.PB
open Go.RowKit Go.Proofs.YtefkbmhkhpekjaaW.PrintWords Go.Proofs.YtefkbmhkhpekjaaW.PrintLast Go.Proofs.YtefkbmhkhpekjaaW.PrintMore Go.Proofs.YtefkbmhkhpekjaaMine
set_option linter.unusedVariables false
set_option linter.unusedSimpArgs false
theorem reads_le : ∀ p : List (List S85), (∀ t ∈ p, t.length ≤ 30) → 0 ≤ Pure.readsP p ∧ Pure.readsP p ≤ 30 * (p.length : Int)
  | [], _ => by simp [Pure.readsP]
  | t :: p, h => by
    have h1 := Pure.readsI_le t
    have h2 := h t (by simp)
    have ih := reads_le p (fun u hu => h u (by simp [hu]))
    simp only [Pure.readsP, List.length_cons]
    omega
theorem row_dw {w0 w1 w : World} {g m : Nat} {b : List Int} (n : Int) (h1 : 1 ≤ n) (h3 : n ≤ 3) (hb : Pure.Rd b) (hm : m ≤ 500000) (D : Dw w0 w1 w g b m) :
    Calls Try.prog 96 #[.pointer (some ⟨g, 0, none⟩), .int .i64 n] w fun e w' => ∃ (A : Option Addr) (c : Nat) (row : List Int), e = .returned (.slice A row.length c) ∧ row.length ≤ 31 ∧ Kd.R (Kd.int .i64) 3 w' w.heap.size (fun k => w.heap.size ≤ k) (.slice A row.length c) row ∧ Dw w0 w1 w' g b (m + 26) ∧ KeepBut w w' g none := by
  obtain ⟨s, hi, g0, g1⟩ := D.st
  obtain ⟨row, s', ⟨K, hK⟩, g2, g3, hr⟩ := Pure.row_dr hb s n g0 (by omega) h1 h3
  refine (spec_l71Row.calls K g b s n row s' w0 w hi D.be (hK K (Nat.le_refl _))).mono ?_
  rintro e w' ⟨v, rfl, hR, hi', hb', hk⟩
  obtain ⟨A, c, rfl⟩ := Kd.R_slice hR
  exact ⟨A, c, row, rfl, hr, Kd.R_mono (Kd.R_bound hR) (fun k h => h.2.1), ⟨⟨s', hi', by omega, by omega⟩, hb', D.ke.trans hk (.inl rfl)⟩, hk⟩
set_option maxHeartbeats 8000000 in
set_option maxRecDepth 100000 in
theorem drawTS (A0 : Option Addr) (c0 : Nat) (l0 : List Int) (w : World) (hr0 : Kd.C (Kd.int .u8) w A0 l0.length l0) (hc0 : l0.length ≤ c0) (hw : ∀ x ∈ l0, (Lit.int .u8 x).wf = true) :
    Calls Try.prog 59 #[.slice A0 l0.length c0] w fun e w' => ∃ (vp vb vc vr : Value) (p : List (List S85)) (sr sl row : List Int), e = .returned (.tuple #[.agg #[vp], .agg #[vb, vc], vr]) ∧ (Pure.Good p ∧ sr.length ≤ 1001 ∧ sl.length ≤ 3 ∧ row.length ≤ 31) ∧
      Kd.N (Kd.slice 85 k85) 82 w' w.heap.size (fun _ => True) vp p ∧ Kd.R (Kd.int .i64) 3 w' w.heap.size (fun _ => True) vb sr ∧ Kd.Q (Kd.int .i64) 3 w' w.heap.size (fun _ => True) vc sl ∧ Kd.R (Kd.int .i64) 3 w' w.heap.size (fun _ => True) vr row ∧ Below w.heap.size w w' := by
  obtain ⟨b, hb, ho⟩ := Pure.open_ev l0 hw
  have HO := am_ ho
  have HC := am_ hr0
  clear ho hr0 hw
  go_enter Try.func59, Try.ntmps59
  go_wp2_with (go_at_call 70; refine park ?_)
  refine ⟨?_⟩
  have hB : Below w.heap.size w ((w.alloc (.cells #[.slice none 0 0] 35)).alloc (.cells #[.slice none 0 0, .slice none 0 0] 24)) := below_alloc (below_alloc (Below.refl _ _) _) _
  refine (spec_l6Open.calls A0 c0 l0 b 0 w _ hB HC.out hc0 HO.out).mono ?_
  rintro e W1 ⟨g, rfl, hi, hbe, hb1⟩
  have B1 := am_ (blk_below (blk_alloc (heap_alloc_new w (.cells #[.slice none 0 0] 35)) (.cells #[.slice none 0 0, .slice none 0 0] 24)) hb1)
  have z := blk_below (heap_alloc_new (w.alloc (.cells #[.slice none 0 0] 35)) (.cells #[.slice none 0 0, .slice none 0 0] 24)) hb1
  rw [World.size_alloc] at z
  have B2 := am_ z
  have HW1 := am_ (blk_lt B2.out)
  have NE := am_ (show w.heap.size ≠ g ∧ w.heap.size + 1 ≠ g by
    obtain ⟨_, _, h3, _⟩ := hi
    refine ⟨fun e => ?_, fun e => ?_⟩
    · have h := B1.out; rw [e, h3] at h; injection h with h; injection h with _ h; exact absurd h (by decide)
    · have h := B2.out; rw [e, h3] at h; injection h with h; injection h with _ h; exact absurd h (by decide))
  have D1 := am_ (show Dw w W1 W1 g b 0 from ⟨⟨0, hi, Int.le_refl _, Int.le_refl _⟩, hbe, KeepBut.refl _ _ _⟩)
  clear z hi hbe hb1 hB HC HO
  go_wp2_with (go_at_call 92; refine park ?_)
  refine ⟨?_⟩
  refine (any_dw hb (by omega) D1.out).mono ?_
  rintro e W2 ⟨v, p, rfl, hp, hN, hD⟩
  obtain ⟨A, c, rfl⟩ := Kd.N_slice hN
  have HP := am_ hp
  have HLT := am_ (show p.length ≤ c from (Kd.N_reads' hN).2.1)
  have hz := D1.out.be.size
  have D2 := am_ (hD.alloc (.cells #[.slice A p.length c] 35))
  have N2 := am_ (Kd.N_alloc (Kd.N_lower hN hz) (.cells #[.slice A p.length c] 35))
  have C1 := am_ (blk_alloc (hD.ke.blk B1.out NE.out.1 (by simp)) (.cells #[.slice A p.length c] 35))
  have C2 := am_ (blk_alloc (hD.ke.blk B2.out NE.out.2 (by simp)) (.cells #[.slice A p.length c] 35))
  have C3 := am_ (heap_alloc_new W2 (.cells #[.slice A p.length c] 35))
  have HG := am_ (show g < W2.heap.size from hD.lt)
  have HW := am_ (show w.heap.size + 1 < W2.heap.size from blk_lt (hD.ke.blk B2.out NE.out.2 (by simp)))
  clear hp hN hz hD B1 B2
  go_wp2_with fail
  obtain ⟨K, hK⟩ := Pure.sProgReads p HP.out.short
  have HK := am_ (hK K (Nat.le_refl _))
  have hn : -1 ≤ (if Pure.okP p = true then Pure.readsP p else -1) ∧ (if Pure.okP p = true then Pure.readsP p else -1) ≤ 90 := by
    have h1 := reads_le p HP.out.2.2
    have h2 := HP.out.2.1
    split <;> omega
  generalize (if Pure.okP p = true then Pure.readsP p else -1) = n at *
  have HN := am_ hn
  clear hK hn
  have D3 := am_ D2.out.drew
  have N3 := am_ (Kd.N_drew N2.out)
  have E1 := am_ (blk_drew C1.out)
  have E2 := am_ (blk_drew C2.out)
  have E3 := am_ (blk_drew C3.out)
  have SZ := am_ (show W2.heap.size < (W2.alloc (.cells #[.slice A p.length c] 35)).drew.heap.size from blk_lt E3.out)
  have hl1 : 1 ≤ (p.length : Int) := by have := HP.out.1; omega
  have hl3 : (p.length : Int) ≤ 3 := by have := HP.out.2.1; omega
  have HL := am_ (And.intro hl1 hl3)
  clear D2 N2 C1 C2 C3 hl1 hl3
  generalize W2.heap.size = gp at *
  generalize hV : (W2.alloc (.cells #[.slice A p.length c] 35)) = V at *
  clear hV
  have q0 : V.drew.cell? ⟨gp, 0, none⟩ = some (.slice A p.length c) := cf0 E3.out
  go_region_held3 (fun W => W.cell? ⟨gp, 0, none⟩ = some (.slice A p.length c)) (first | go_keep | exact s3)
    (first
      | (go_at_call 103; (with_reducible refine (seen_dw p A c n HN.out hb.len hb.u8 (by omega) D3.out.here (fun W hk => (Kd.N_reads' (Kd.N_keep N3.out hk (fun k h => h.2))).2.2) HLT.out (fun W hC => spec_ProgReads.calls K A c p n W hC HLT.out HK.out)).mono ?_); rintro e W4 ⟨vb, vc, sr, sl, rfl, hs1, hs2, hR, hQ, hD⟩; obtain ⟨Ab, cb, rfl⟩ := Kd.R_slice hR; obtain ⟨Ac, cc, rfl, -⟩ := Kd.Q_slice hQ; have HSL := am_ (And.intro hs1 hs2); have R4 := am_ (Kd.R_mono (ok' := fun k => V.drew.heap.size ≤ k) (Kd.R_bound hR) (fun k h => h.2.1)); have Q4 := am_ (Kd.Q_mono (ok' := fun k => V.drew.heap.size ≤ k) (Kd.Q_bound hQ) (fun k h => h.2.1)); have D4 := am_ (D3.out.then hD); have SZ4 := am_ hD.sz; have N4 := am_ (Kd.N_keep N3.out hD.ke (fun k h => h.2)); have F1 := am_ (hD.ke.blk E1.out NE.out.1 (by simp)); have F2 := am_ (hD.ke.blk E2.out NE.out.2 (by simp)); have F3 := am_ (kB hD.ke E3.out HG.out); clear hs1 hs2 hR hQ hD q0; have q0 : W4.cell? ⟨gp, 0, none⟩ = some (.slice A p.length c) := cf0 F3.out)
      | (go_at_call 96; (with_reducible refine (row_dw (p.length : Int) HL.out.1 HL.out.2 hb (by omega) D4.out).mono ?_); rintro e W5 ⟨Ar, cr, row, rfl, hr, hR, hD, hk⟩; have HRL := am_ hr; have R5 := am_ hR; have D5 := am_ hD; have R6 := am_ (kR hk R4.out (by have := HG.out; have := SZ.out; omega)); have Q6 := am_ (Kd.Q_keep Q4.out hk (fun k h => by have := HG.out; have := SZ.out; omega)); have N6 := am_ (Kd.N_keep N4.out hk (fun k h => h.2)); have G1 := am_ (hk.blk F1.out NE.out.1 (by simp)); have G2 := am_ (hk.blk F2.out NE.out.2 (by simp)); have G3 := am_ (kB hk F3.out HG.out); clear hr hR hD hk q0; have q0 : W5.cell? ⟨gp, 0, none⟩ = some (.slice A p.length c) := cf0 G3.out; have q1 := cf0 G1.out; have q2 := blk_frozen G1.out 0; have q3 := cf0 G2.out; have q4 := cf1 G2.out; have q5 := blk_frozen G2.out 0; have q6 := blk_frozen G2.out 1; have q7 : w.heap.size ≠ gp := (by have := HW.out; omega); have q8 : gp ≠ w.heap.size := (by have := HW.out; omega); have q9 : gp ≠ w.heap.size + 1 := (by have := HW.out; omega); have s3 : (((W5.setCell ⟨w.heap.size, 0, none⟩ (.slice A p.length c)).setCell ⟨w.heap.size + 1, 0, none⟩ (.slice Ab sr.length cb)).setCell ⟨w.heap.size + 1, 1, none⟩ (.slice Ac sl.length cc)).cell? ⟨gp, 0, none⟩ = some (.slice A p.length c) := cf0 (blk_far (blk_far (blk_far G3.out q8 _) q9 _) q9 _)))
  have s5 := am_ (blk_far (blk_far (blk_set G1.out 0 (.slice A p.length c)) (p := ⟨w.heap.size + 1, 0, none⟩) (by show w.heap.size ≠ w.heap.size + 1; omega) (.slice Ab sr.length cb)) (p := ⟨w.heap.size + 1, 1, none⟩) (by show w.heap.size ≠ w.heap.size + 1; omega) (.slice Ac sl.length cc))
  have s6 := am_ (blk_set (blk_set (blk_far G2.out (p := ⟨w.heap.size, 0, none⟩) (by show w.heap.size + 1 ≠ w.heap.size; omega) (.slice A p.length c)) 0 (.slice Ab sr.length cb)) 1 (.slice Ac sl.length cc))
  clear q0 q1 q2 q3 q4 q5 q6 q7 q8 q9 s3
  go_wp2_with fail
  refine bodyPost_ret (results_list (rs := [.cell 2 35, .cell 3 24, .tmp 4]) rfl (by simp) (.cell w.heap.size 35 #[.slice A p.length c] (0, 0) _ rfl s5.out Try.underlying35 rfl (by kernel_rfl) (.cell (w.heap.size + 1) 24 #[.slice Ab sr.length cb, .slice Ac sl.length cc] (0, 0) _ rfl s6.out Try.underlying24 rfl (by kernel_rfl) (.tmp .nil)))) rfl ?_
  have hz3 : W1.heap.size ≤ V.drew.heap.size := D3.out.sz
  have hz4 : V.drew.heap.size ≤ W4.heap.size := SZ4.out
  have h1 := HW1.out
  refine ⟨_, _, _, _, p, sr, sl, row, rfl, ⟨HP.out, HSL.out.1, HSL.out.2, HRL.out⟩, ?_, ?_, ?_, ?_, below_set (below_set (below_set D5.out.be (Nat.le_refl _)) (Nat.le_succ _)) (Nat.le_succ _)⟩
  · have ne : ∀ k, W1.heap.size ≤ k ∧ k ≠ g → k ≠ w.heap.size ∧ k ≠ w.heap.size + 1 := fun k h => by omega
    exact Kd.N_mono (Kd.N_far (p := ⟨w.heap.size + 1, 1, none⟩) (Kd.N_far (p := ⟨w.heap.size + 1, 0, none⟩) (Kd.N_far (p := ⟨w.heap.size, 0, none⟩) N6.out (fun k h => (ne k h).1) _) (fun k h => (ne k h).2) _) (fun k h => (ne k h).2) _) (fun _ _ => trivial)
  · have ne : ∀ k, V.drew.heap.size ≤ k → k ≠ w.heap.size ∧ k ≠ w.heap.size + 1 := fun k h => by omega
    exact Kd.R_lower (Kd.R_mono (Kd.R_far (p := ⟨w.heap.size + 1, 1, none⟩) (Kd.R_far (p := ⟨w.heap.size + 1, 0, none⟩) (Kd.R_far (p := ⟨w.heap.size, 0, none⟩) R6.out (fun k h => (ne k h).1) _) (fun k h => (ne k h).2) _) (fun k h => (ne k h).2) _) (fun _ _ => trivial)) (by omega)
  · have ne : ∀ k, V.drew.heap.size ≤ k → k ≠ w.heap.size ∧ k ≠ w.heap.size + 1 := fun k h => by omega
    exact Kd.Q_lower (Kd.Q_mono (Kd.Q_far (p := ⟨w.heap.size + 1, 1, none⟩) (Kd.Q_far (p := ⟨w.heap.size + 1, 0, none⟩) (Kd.Q_far (p := ⟨w.heap.size, 0, none⟩) Q6.out (fun k h => (ne k h).1) _) (fun k h => (ne k h).2) _) (fun k h => (ne k h).2) _) (fun _ _ => trivial)) (by omega)
  · have ne : ∀ k, W4.heap.size ≤ k → k ≠ w.heap.size ∧ k ≠ w.heap.size + 1 := fun k h => by omega
    exact Kd.R_lower (Kd.R_mono (Kd.R_far (p := ⟨w.heap.size + 1, 1, none⟩) (Kd.R_far (p := ⟨w.heap.size + 1, 0, none⟩) (Kd.R_far (p := ⟨w.heap.size, 0, none⟩) R5.out (fun k h => (ne k h).1) _) (fun k h => (ne k h).2) _) (fun k h => (ne k h).2) _) (fun _ _ => trivial)) (by omega)
end Go.Proofs.Ytefkbmhkhpekjaa.PB

namespace Go.Proofs.Ytefkbmhkhpekjaa.PB
open Go.RowKit Go.Proofs.YtefkbmhkhpekjaaW.PrintWords Go.Proofs.YtefkbmhkhpekjaaW.PrintLast Go.Proofs.YtefkbmhkhpekjaaW.PrintMore
attribute [local go_sem] max2_int min2_int max_two min_two max_three min_three max_four min_four   -- for this text's walks alone
open Go.Proofs.YtefkbmhkhpekjaaMine
set_option linter.unusedVariables false
set_option linter.unusedSimpArgs false

/-! ### laws_FnTurnSeen: function 20 -/
def laws_FnTurnSeen.T9 : Bool × List (List Nat × List Nat) := (true, [([], []), ([], []), ([], []), ([2], [2]), ([0, 1, 3, 3], [0, 1, 3]), ([4], [4]), ([5], [5]), ([5], [5]), ([], []), ([8, 6, 4, 0, 1, 2, 3, 4, 5, 6, 8], [6, 8]), ([7, 9, 0, 1, 2, 3, 4, 5, 6, 7, 8, 9], [7])])
def laws_FnTurnSeen.B9 : List Nat := [0, 0, 0, 4, 15, 31, 63, 63, 0, 383, 1023]
theorem laws_FnTurnSeen.tab9 : rtab .any (opsOf Try.f20 9) = laws_FnTurnSeen.T9 := by kernel_rfl
theorem laws_FnTurnSeen.bits9 : waitsOk laws_FnTurnSeen.T9.2 laws_FnTurnSeen.B9 = true := by kernel_rfl
def laws_FnTurnSeen.Facts (k : Nat) (p q : List (List S85)) (sr sl row wr wl rb : List Int) (told tq : Bool) : Prop := spec_TurnSeen.f k p sr sl row = some (wr, wl, told) ∧ impl_TurnSeen.f k p sr sl row = some (wr, wl, told) ∧ laws_lpSame.f k wr wl wr wl = some true ∧ (told = true → impl_TurnThreads.f k p row = some (q, tq) ∧ laws_lpBack.f k row = some rb ∧ impl_TurnSeen.f k q wr wl rb = some (sr, sl, true) ∧ impl_SeenOk.f k q wr wl = some true ∧ laws_lpSame.f k sr sl sr sl = some true)
def laws_FnTurnSeen.Pure : Prop := ∀ (p : List (List S85)) (sr sl row : List Int), Pure.Good p ∧ sr.length ≤ 1001 ∧ sl.length ≤ 3 ∧ row.length ≤ 31 → ∃ k q wr wl rb told tq, laws_FnTurnSeen.Facts k p q sr sl row wr wl rb told tq
set_option maxRecDepth 100000 in
set_option maxHeartbeats 8000000 in
theorem laws_FnTurnSeen.calls (A0 : Option Addr) (c0 : Nat) (l0 : List Int) (w : World) (hr0 : Kd.C (Kd.int .u8) w A0 l0.length l0) (hc0 : l0.length ≤ c0) (hw : ∀ x ∈ l0, (Lit.int .u8 x).wf = true) (h : laws_FnTurnSeen.Pure) :
  Calls Try.prog 20 #[.slice A0 l0.length c0] w fun e w' => e = .returned (.bool true) ∧ Below w.heap.size w w' := by
 have C0 := am_ hr0
 have L0 := am_ hc0
 have HW := am_ hw
 have HH := am_ h
 clear hr0 hc0 hw h
 by_cases hl : (l0.length : Int) > 1048576
 ·have hlb : decide (1048576 < (l0.length : Int)) = true := decide_eq_true hl
  go_enter Try.func20, Try.ntmps20
  go_wp2_with fail
  refine bodyPost_ret (results_tmp rfl _ _ _) rfl ?_
  exact ⟨rfl, Below.refl _ _⟩
 have hlb : decide (1048576 < (l0.length : Int)) = false := decide_eq_false hl
 go_enter Try.func20, Try.ntmps20
 go_wp2_with (go_at_call 59; refine park ?_)
 clear hlb
 refine ⟨?_⟩
 refine (drawTS _ _ l0 _ C0.out L0.out HW.out).mono ?_
 rintro e W1 ⟨vp, vb, vc, vr, p, sr, sl, row, rfl, hG, hN, hS, hQ, hR, hb⟩
 obtain ⟨k, q, wr, wl, rb, told, tq, hF⟩ := HH.out p sr sl row hG
 unfold laws_FnTurnSeen.Facts at hF
 obtain ⟨hsp, him, hsa, ht⟩ := hF
 have Gsp := am_ hsp
 have Gim := am_ him
 have Gsa := am_ hsa
 have GT := am_ ht
 clear hsp him hsa ht hG HW HH
 obtain ⟨Ap, cp, rfl⟩ := Kd.N_slice hN
 obtain ⟨As, cs, rfl⟩ := Kd.R_slice hS
 obtain ⟨Al, cl, rfl, -⟩ := Kd.Q_slice hQ
 obtain ⟨Ar, cr, rfl⟩ := Kd.R_slice hR
 have Rp_n := am_ (Kd.N_reads' hN).2.2
 have LRp := am_ (Kd.N_reads' hN).2.1
 have Rs_n := am_ hS
 have Rl_n := am_ (Kd.Q_reads' hQ).2.2
 have LRl := am_ (Kd.Q_reads' hQ).2.1
 have Rr_n := am_ (Kd.R_reads' hR).2.2
 have LRr := am_ (Kd.R_reads' hR).2.1
 have HB_n := am_ hb
 clear hN hS hQ hR hb C0 L0
 have hx1 := heap_alloc_new (W1.alloc (Obj.cells #[Value.slice Ap p.length cp] 35)) (Obj.cells #[Value.slice As sr.length cs, Value.slice Al sl.length cl] 24)
 rw [World.size_alloc] at hx1
 have Bp_n := am_ (blk_alloc (heap_alloc_new W1 (Obj.cells #[Value.slice Ap p.length cp] 35)) (Obj.cells #[Value.slice As sr.length cs, Value.slice Al sl.length cl] 24))
 have Bs_n := am_ hx1
 clear hx1
 have hb := below_alloc (below_alloc (Below.refl W1.heap.size W1) (Obj.cells #[Value.slice Ap p.length cp] 35)) (Obj.cells #[Value.slice As sr.length cs, Value.slice Al sl.length cl] 24)
 have Rp_1 := am_ (Kd.C_below Rp_n.out hb)
 have Rs_1 := am_ (Kd.R_below Rs_n.out hb)
 have Rl_1 := am_ (Kd.C_below Rl_n.out hb)
 have Rr_1 := am_ (Kd.C_below Rr_n.out hb)
 have HB_1 := am_ (below_then HB_n.out HB_n.out.size hb)
 clear Rp_n Rs_n Rl_n Rr_n HB_n hb
 have hl0 : ((W1.alloc (Obj.cells #[Value.slice Ap p.length cp] 35)).alloc (Obj.cells #[Value.slice As sr.length cs, Value.slice Al sl.length cl] 24)).cell? ⟨W1.heap.size, 0, none⟩ = some (.slice Ap p.length cp) := (blk_cell Bp_n.out 0).trans rfl
 have hl1 : ((W1.alloc (Obj.cells #[Value.slice Ap p.length cp] 35)).alloc (Obj.cells #[Value.slice As sr.length cs, Value.slice Al sl.length cl] 24)).cell? ⟨W1.heap.size + 1, 0, none⟩ = some (.slice As sr.length cs) := (blk_cell Bs_n.out 0).trans rfl
 have hl2 : ((W1.alloc (Obj.cells #[Value.slice Ap p.length cp] 35)).alloc (Obj.cells #[Value.slice As sr.length cs, Value.slice Al sl.length cl] 24)).cell? ⟨W1.heap.size + 1, 1, none⟩ = some (.slice Al sl.length cl) := (blk_cell Bs_n.out 1).trans rfl
 go_wp2_with (go_at_call 60; refine park ?_)
 clear hl0 hl1 hl2
 refine ⟨?_⟩
 generalize W1.heap.size = gp at *
 generalize ((W1.alloc (Obj.cells #[Value.slice Ap p.length cp] 35)).alloc (Obj.cells #[Value.slice As sr.length cs, Value.slice Al sl.length cl] 24)) = W1a at *
 refine (spec_TurnSeen.calls k _ _ p _ _ sr _ _ sl _ _ row wr wl told _ Rp_1.out LRp.out (Kd.R_reads' Rs_1.out).2.2 (Kd.R_reads' Rs_1.out).2.1 Rl_1.out LRl.out Rr_1.out LRr.out Gsp.out).mono ?_
 rintro e W2 ⟨vb, vc, rfl, hS, hT, hb⟩
 obtain ⟨Awr, cwr, rfl⟩ := Kd.R_slice hS
 obtain ⟨Awl, cwl, rfl⟩ := Kd.R_slice hT
 have Rp_2 := am_ (Kd.C_below Rp_1.out hb)
 have Rs_2 := am_ (Kd.R_below Rs_1.out hb)
 have Rl_2 := am_ (Kd.C_below Rl_1.out hb)
 have Rr_2 := am_ (Kd.C_below Rr_1.out hb)
 have Bp_2 := am_ (blk_below Bp_n.out hb)
 have Bs_2 := am_ (blk_below Bs_n.out hb)
 have HB_2 := am_ (below_then HB_1.out HB_1.out.size hb)
 clear Rp_1 Rs_1 Rl_1 Rr_1 Bp_n Bs_n HB_1
 have Rwr_n := am_ (Kd.R_reads' hS).2.2
 have LRwr := am_ (Kd.R_reads' hS).2.1
 have Rwl_n := am_ (Kd.R_reads' hT).2.2
 have LRwl := am_ (Kd.R_reads' hT).2.1
 clear hS hT hb
 have Bw_n := am_ (heap_alloc_new W2 (Obj.cells #[Value.slice Awr wr.length cwr, Value.slice Awl wl.length cwl] 24))
 have hb := below_alloc (Below.refl W2.heap.size W2) (Obj.cells #[Value.slice Awr wr.length cwr, Value.slice Awl wl.length cwl] 24)
 have Rp_3 := am_ (Kd.C_below Rp_2.out hb)
 have Rs_3 := am_ (Kd.R_below Rs_2.out hb)
 have Rl_3 := am_ (Kd.C_below Rl_2.out hb)
 have Rr_3 := am_ (Kd.C_below Rr_2.out hb)
 have Rwr_3 := am_ (Kd.C_below Rwr_n.out hb)
 have Rwl_3 := am_ (Kd.C_below Rwl_n.out hb)
 have Bp_3 := am_ (blk_below Bp_2.out hb)
 have Bs_3 := am_ (blk_below Bs_2.out hb)
 have HB_3 := am_ (below_then HB_2.out HB_2.out.size hb)
 clear Rp_2 Rs_2 Rl_2 Rr_2 Rwr_n Rwl_n Bp_2 Bs_2 HB_2 hb
 have hl0 : (W2.alloc (Obj.cells #[Value.slice Awr wr.length cwr, Value.slice Awl wl.length cwl] 24)).cell? ⟨gp, 0, none⟩ = some (.slice Ap p.length cp) := (blk_cell Bp_3.out 0).trans rfl
 have hl1 : (W2.alloc (Obj.cells #[Value.slice Awr wr.length cwr, Value.slice Awl wl.length cwl] 24)).cell? ⟨gp + 1, 0, none⟩ = some (.slice As sr.length cs) := (blk_cell Bs_3.out 0).trans rfl
 have hl2 : (W2.alloc (Obj.cells #[Value.slice Awr wr.length cwr, Value.slice Awl wl.length cwl] 24)).cell? ⟨gp + 1, 1, none⟩ = some (.slice Al sl.length cl) := (blk_cell Bs_3.out 1).trans rfl
 go_wp2_with (go_at_call 61; refine park ?_)
 clear hl0 hl1 hl2
 refine ⟨?_⟩
 generalize W2.heap.size = gw at *
 generalize (W2.alloc (Obj.cells #[Value.slice Awr wr.length cwr, Value.slice Awl wl.length cwl] 24)) = W2a at *
 refine (impl_TurnSeen.calls k _ _ p _ _ _ sr _ _ sl _ _ row wr wl told _ Rp_3.out LRp.out (Kd.R_V Rs_3.out) Rl_3.out LRl.out Rr_3.out LRr.out Gim.out).mono ?_
 rintro e W3 ⟨vb, vc, rfl, hS, hT, hb⟩
 obtain ⟨Axr, cxr, rfl⟩ := Kd.R_slice hS
 obtain ⟨Axl, cxl, rfl⟩ := Kd.R_slice hT
 have Rp_4 := am_ (Kd.C_below Rp_3.out hb)
 have Rs_4 := am_ (Kd.R_below Rs_3.out hb)
 have Rl_4 := am_ (Kd.C_below Rl_3.out hb)
 have Rr_4 := am_ (Kd.C_below Rr_3.out hb)
 have Rwr_4 := am_ (Kd.C_below Rwr_3.out hb)
 have Rwl_4 := am_ (Kd.C_below Rwl_3.out hb)
 have Bp_4 := am_ (blk_below Bp_3.out hb)
 have Bs_4 := am_ (blk_below Bs_3.out hb)
 have Bw_4 := am_ (blk_below Bw_n.out hb)
 have HB_4 := am_ (below_then HB_3.out HB_3.out.size hb)
 clear Rp_3 Rs_3 Rl_3 Rr_3 Rwr_3 Rwl_3 Bp_3 Bs_3 Bw_n HB_3
 have Rxr_n := am_ hS
 have Rxl_n := am_ (Kd.R_reads' hT).2.2
 have LRxl := am_ (Kd.R_reads' hT).2.1
 clear hS hT hb
 have Bx_n := am_ (heap_alloc_new W3 (Obj.cells #[Value.slice Axr wr.length cxr, Value.slice Axl wl.length cxl] 24))
 have hb := below_alloc (Below.refl W3.heap.size W3) (Obj.cells #[Value.slice Axr wr.length cxr, Value.slice Axl wl.length cxl] 24)
 have Rp_5 := am_ (Kd.C_below Rp_4.out hb)
 have Rs_5 := am_ (Kd.R_below Rs_4.out hb)
 have Rl_5 := am_ (Kd.C_below Rl_4.out hb)
 have Rr_5 := am_ (Kd.C_below Rr_4.out hb)
 have Rwr_5 := am_ (Kd.C_below Rwr_4.out hb)
 have Rwl_5 := am_ (Kd.C_below Rwl_4.out hb)
 have Rxr_5 := am_ (Kd.R_below Rxr_n.out hb)
 have Rxl_5 := am_ (Kd.C_below Rxl_n.out hb)
 have Bp_5 := am_ (blk_below Bp_4.out hb)
 have Bs_5 := am_ (blk_below Bs_4.out hb)
 have Bw_5 := am_ (blk_below Bw_4.out hb)
 have HB_5 := am_ (below_then HB_4.out HB_4.out.size hb)
 clear Rp_4 Rs_4 Rl_4 Rr_4 Rwr_4 Rwl_4 Rxr_n Rxl_n Bp_4 Bs_4 Bw_4 HB_4 hb
 cases told
 ·have hl0 : (W3.alloc (Obj.cells #[Value.slice Axr wr.length cxr, Value.slice Axl wl.length cxl] 24)).cell? ⟨W3.heap.size, 0, none⟩ = some (.slice Axr wr.length cxr) := (blk_cell Bx_n.out 0).trans rfl
  have hl1 : (W3.alloc (Obj.cells #[Value.slice Axr wr.length cxr, Value.slice Axl wl.length cxl] 24)).cell? ⟨W3.heap.size, 1, none⟩ = some (.slice Axl wl.length cxl) := (blk_cell Bx_n.out 1).trans rfl
  have hl2 : (W3.alloc (Obj.cells #[Value.slice Axr wr.length cxr, Value.slice Axl wl.length cxl] 24)).cell? ⟨gw, 0, none⟩ = some (.slice Awr wr.length cwr) := (blk_cell Bw_5.out 0).trans rfl
  have hl3 : (W3.alloc (Obj.cells #[Value.slice Axr wr.length cxr, Value.slice Axl wl.length cxl] 24)).cell? ⟨gw, 1, none⟩ = some (.slice Awl wl.length cwl) := (blk_cell Bw_5.out 1).trans rfl
  go_wp2_with (go_at_call 62; refine park ?_)
  clear hl0 hl1 hl2 hl3
  refine ⟨?_⟩
  generalize W3.heap.size = gx at *
  generalize (W3.alloc (Obj.cells #[Value.slice Axr wr.length cxr, Value.slice Axl wl.length cxl] 24)) = W5a at *
  refine (laws_lpSame.calls k _ _ wr _ _ wl _ _ wr _ _ wl true _ (Kd.R_reads' Rxr_5.out).2.2 (Kd.R_reads' Rxr_5.out).2.1 Rxl_5.out LRxl.out Rwr_5.out LRwr.out Rwl_5.out LRwl.out Gsa.out).mono ?_
  rintro e W5 ⟨rfl, hb⟩
  have Rp_6 := am_ (Kd.C_below Rp_5.out hb)
  have Rs_6 := am_ (Kd.R_below Rs_5.out hb)
  have Rl_6 := am_ (Kd.C_below Rl_5.out hb)
  have Rr_6 := am_ (Kd.C_below Rr_5.out hb)
  have Rwr_6 := am_ (Kd.C_below Rwr_5.out hb)
  have Rwl_6 := am_ (Kd.C_below Rwl_5.out hb)
  have Rxr_6 := am_ (Kd.R_below Rxr_5.out hb)
  have Rxl_6 := am_ (Kd.C_below Rxl_5.out hb)
  have Bp_6 := am_ (blk_below Bp_5.out hb)
  have Bs_6 := am_ (blk_below Bs_5.out hb)
  have Bw_6 := am_ (blk_below Bw_5.out hb)
  have Bx_6 := am_ (blk_below Bx_n.out hb)
  have HB_6 := am_ (below_then HB_5.out HB_5.out.size hb)
  clear Rp_5 Rs_5 Rl_5 Rr_5 Rwr_5 Rwl_5 Rxr_5 Rxl_5 Bp_5 Bs_5 Bw_5 Bx_n HB_5 hb
  have hl0 : W5.cell? ⟨gx, 0, none⟩ = some (.slice Axr wr.length cxr) := (blk_cell Bx_6.out 0).trans rfl
  have hl1 : W5.cell? ⟨gx, 1, none⟩ = some (.slice Axl wl.length cxl) := (blk_cell Bx_6.out 1).trans rfl
  have hl2 : W5.cell? ⟨gw, 0, none⟩ = some (.slice Awr wr.length cwr) := (blk_cell Bw_6.out 0).trans rfl
  have hl3 : W5.cell? ⟨gw, 1, none⟩ = some (.slice Awl wl.length cwl) := (blk_cell Bw_6.out 1).trans rfl
  go_wp2_with (go_at_call 62; refine park ?_)
  clear hl0 hl1 hl2 hl3
  refine ⟨?_⟩
  refine (laws_lpSame.calls k _ _ wr _ _ wl _ _ wr _ _ wl true _ (Kd.R_reads' Rxr_6.out).2.2 (Kd.R_reads' Rxr_6.out).2.1 Rxl_6.out LRxl.out Rwr_6.out LRwr.out Rwl_6.out LRwl.out Gsa.out).mono ?_
  rintro e W6 ⟨rfl, hb⟩
  have Rp_7 := am_ (Kd.C_below Rp_6.out hb)
  have Rs_7 := am_ (Kd.R_below Rs_6.out hb)
  have Rl_7 := am_ (Kd.C_below Rl_6.out hb)
  have Rr_7 := am_ (Kd.C_below Rr_6.out hb)
  have Rwr_7 := am_ (Kd.C_below Rwr_6.out hb)
  have Rwl_7 := am_ (Kd.C_below Rwl_6.out hb)
  have Rxr_7 := am_ (Kd.R_below Rxr_6.out hb)
  have Rxl_7 := am_ (Kd.C_below Rxl_6.out hb)
  have Bp_7 := am_ (blk_below Bp_6.out hb)
  have Bs_7 := am_ (blk_below Bs_6.out hb)
  have Bw_7 := am_ (blk_below Bw_6.out hb)
  have Bx_7 := am_ (blk_below Bx_6.out hb)
  have HB_7 := am_ (below_then HB_6.out HB_6.out.size hb)
  clear Rp_6 Rs_6 Rl_6 Rr_6 Rwr_6 Rwl_6 Rxr_6 Rxl_6 Bp_6 Bs_6 Bw_6 Bx_6 HB_6 hb
  go_wp2_with fail
  refine bodyPost_ret (results_tmp rfl _ _ _) rfl ?_
  exact ⟨rfl, HB_7.out⟩
 obtain ⟨htt, hbk, hib, hsk, hss⟩ := GT.out rfl
 have Gtt := am_ htt
 have Gbk := am_ hbk
 have Gib := am_ hib
 have Gsk := am_ hsk
 have Gss := am_ hss
 clear GT htt hbk hib hsk hss
 have hl0 : (W3.alloc (Obj.cells #[Value.slice Axr wr.length cxr, Value.slice Axl wl.length cxl] 24)).cell? ⟨W3.heap.size, 0, none⟩ = some (.slice Axr wr.length cxr) := (blk_cell Bx_n.out 0).trans rfl
 have hl1 : (W3.alloc (Obj.cells #[Value.slice Axr wr.length cxr, Value.slice Axl wl.length cxl] 24)).cell? ⟨W3.heap.size, 1, none⟩ = some (.slice Axl wl.length cxl) := (blk_cell Bx_n.out 1).trans rfl
 have hl2 : (W3.alloc (Obj.cells #[Value.slice Axr wr.length cxr, Value.slice Axl wl.length cxl] 24)).cell? ⟨gw, 0, none⟩ = some (.slice Awr wr.length cwr) := (blk_cell Bw_5.out 0).trans rfl
 have hl3 : (W3.alloc (Obj.cells #[Value.slice Axr wr.length cxr, Value.slice Axl wl.length cxl] 24)).cell? ⟨gw, 1, none⟩ = some (.slice Awl wl.length cwl) := (blk_cell Bw_5.out 1).trans rfl
 go_wp2_with (go_at_call 62; refine park ?_)
 clear hl0 hl1 hl2 hl3
 refine ⟨?_⟩
 generalize W3.heap.size = gx at *
 generalize (W3.alloc (Obj.cells #[Value.slice Axr wr.length cxr, Value.slice Axl wl.length cxl] 24)) = W5a at *
 refine (laws_lpSame.calls k _ _ wr _ _ wl _ _ wr _ _ wl true _ (Kd.R_reads' Rxr_5.out).2.2 (Kd.R_reads' Rxr_5.out).2.1 Rxl_5.out LRxl.out Rwr_5.out LRwr.out Rwl_5.out LRwl.out Gsa.out).mono ?_
 rintro e W5 ⟨rfl, hb⟩
 have Rp_6 := am_ (Kd.C_below Rp_5.out hb)
 have Rs_6 := am_ (Kd.R_below Rs_5.out hb)
 have Rl_6 := am_ (Kd.C_below Rl_5.out hb)
 have Rr_6 := am_ (Kd.C_below Rr_5.out hb)
 have Rwr_6 := am_ (Kd.C_below Rwr_5.out hb)
 have Rwl_6 := am_ (Kd.C_below Rwl_5.out hb)
 have Rxr_6 := am_ (Kd.R_below Rxr_5.out hb)
 have Rxl_6 := am_ (Kd.C_below Rxl_5.out hb)
 have Bp_6 := am_ (blk_below Bp_5.out hb)
 have Bs_6 := am_ (blk_below Bs_5.out hb)
 have Bw_6 := am_ (blk_below Bw_5.out hb)
 have Bx_6 := am_ (blk_below Bx_n.out hb)
 have HB_6 := am_ (below_then HB_5.out HB_5.out.size hb)
 clear Rp_5 Rs_5 Rl_5 Rr_5 Rwr_5 Rwl_5 Rxr_5 Rxl_5 Bp_5 Bs_5 Bw_5 Bx_n HB_5 hb Rwr_6 Rwl_6 Bw_6
 have hl0 : W5.cell? ⟨gp, 0, none⟩ = some (.slice Ap p.length cp) := (blk_cell Bp_6.out 0).trans rfl
 go_wp2_with (go_at_call 47; refine park ?_)
 clear hl0
 refine ⟨?_⟩
 refine (impl_TurnThreads.calls k _ _ p _ _ row q tq _ Rp_6.out LRp.out Rr_6.out LRr.out Gtt.out).mono ?_
 rintro e W7 ⟨vb, rfl, hS, hb⟩
 obtain ⟨Aq, cq, rfl⟩ := Kd.S_slice hS
 have Rp_7 := am_ (Kd.C_below Rp_6.out hb)
 have Rs_7 := am_ (Kd.R_below Rs_6.out hb)
 have Rl_7 := am_ (Kd.C_below Rl_6.out hb)
 have Rr_7 := am_ (Kd.C_below Rr_6.out hb)
 have Rxr_7 := am_ (Kd.R_below Rxr_6.out hb)
 have Rxl_7 := am_ (Kd.C_below Rxl_6.out hb)
 have Bp_7 := am_ (blk_below Bp_6.out hb)
 have Bs_7 := am_ (blk_below Bs_6.out hb)
 have Bx_7 := am_ (blk_below Bx_6.out hb)
 have HB_7 := am_ (below_then HB_6.out HB_6.out.size hb)
 clear Rp_6 Rs_6 Rl_6 Rr_6 Rxr_6 Rxl_6 Bp_6 Bs_6 Bx_6 HB_6
 have Rq_n := am_ (Kd.S_reads' hS).2.2
 have LRq := am_ (Kd.S_reads' hS).2.1
 clear hS hb Rp_7 Bp_7
 have Bq_n := am_ (heap_alloc_new W7 (Obj.cells #[Value.slice Aq q.length cq] 35))
 have hb := below_alloc (Below.refl W7.heap.size W7) (Obj.cells #[Value.slice Aq q.length cq] 35)
 have Rs_8 := am_ (Kd.R_below Rs_7.out hb)
 have Rl_8 := am_ (Kd.C_below Rl_7.out hb)
 have Rr_8 := am_ (Kd.C_below Rr_7.out hb)
 have Rxr_8 := am_ (Kd.R_below Rxr_7.out hb)
 have Rxl_8 := am_ (Kd.C_below Rxl_7.out hb)
 have Rq_8 := am_ (Kd.C_below Rq_n.out hb)
 have Bs_8 := am_ (blk_below Bs_7.out hb)
 have Bx_8 := am_ (blk_below Bx_7.out hb)
 have HB_8 := am_ (below_then HB_7.out HB_7.out.size hb)
 clear Rs_7 Rl_7 Rr_7 Rxr_7 Rxl_7 Rq_n Bs_7 Bx_7 HB_7 hb
 go_wp2_with fail
 generalize W7.heap.size = gq at *
 generalize (W7.alloc (Obj.cells #[Value.slice Aq q.length cq] 35)) = W7a at *
 have hb := below_drew (Below.refl W7a.heap.size W7a)
 have Rs_9 := am_ (Kd.R_below Rs_8.out hb)
 have Rl_9 := am_ (Kd.C_below Rl_8.out hb)
 have Rr_9 := am_ (Kd.C_below Rr_8.out hb)
 have Rxr_9 := am_ (Kd.R_below Rxr_8.out hb)
 have Rxl_9 := am_ (Kd.C_below Rxl_8.out hb)
 have Rq_9 := am_ (Kd.C_below Rq_8.out hb)
 have Bs_9 := am_ (blk_below Bs_8.out hb)
 have Bx_9 := am_ (blk_below Bx_8.out hb)
 have Bq_9 := am_ (blk_below Bq_n.out hb)
 have HB_9 := am_ (below_then HB_8.out HB_8.out.size hb)
 clear Rs_8 Rl_8 Rr_8 Rxr_8 Rxl_8 Rq_8 Bs_8 Bx_8 Bq_n HB_8 hb
 refine start_ (n := 11) (S := fun w' => w'.cell? ⟨gq, 0, none⟩ = some (.slice Aq q.length cq) ∧ w'.cell? ⟨gx, 0, none⟩ = some (.slice Axr wr.length cxr) ∧ w'.cell? ⟨gx, 1, none⟩ = some (.slice Axl wl.length cxl)) (ds := []) #[false, false, false, false, false, false, false, false, false, false, false] (by kernel_rfl) rfl rfl ⟨(blk_cell Bq_9.out 0).trans rfl, (blk_cell Bx_9.out 0).trans rfl, (blk_cell Bx_9.out 1).trans rfl⟩ (fun hHeld => ?_)
 refine with_tabW laws_FnTurnSeen.tab9 laws_FnTurnSeen.bits9 (fun HT_ HW_ => ?_)
 generalize W7a.drew = V at *
 refine take_ (i := 0) (N := some 65) (v := ?_) (a' := ?_) #[true, false, false, false, false, false, false, false, false, false, false] rfl rfl (take_ofW HT_.out HW_.out (by kernel_rfl)) (fun _ _ _ h => h) (Or.inl ⟨by rfl, ?_⟩) hHeld ?_ ?_
 rotate_left
 ·intro w' s0
  have s1 := s0.1
  go_simp
  with_reducible rfl
 rotate_left
 ·simp only [Act.put, List.setIfInBounds_toArray, List.set_cons_zero, List.set_cons_succ, i64_w, i32_w]
  rfl
 refine take_ (i := 1) (N := some 66) (v := ?_) (a' := ?_) #[true, true, false, false, false, false, false, false, false, false, false] rfl rfl (take_ofW HT_.out HW_.out (by kernel_rfl)) (fun _ _ _ h => h) (Or.inl ⟨by rfl, ?_⟩) hHeld ?_ ?_
 rotate_left
 ·intro w' s0
  have s1 := s0.2.1
  have s2 := s0.2.2
  go_simp
  with_reducible rfl
 rotate_left
 ·simp only [Act.put, List.setIfInBounds_toArray, List.set_cons_zero, List.set_cons_succ, i64_w, i32_w]
  rfl
 refine pure_ (i := 2) (N := some 67) (v := ?_) (a' := ?_) #[true, true, true, false, false, false, false, false, false, false, false] rfl rfl (any_of HT_.out (by kernel_rfl)) (fun _ _ _ h => h) (Or.inl ⟨by rfl, ?_⟩) ?_ ?_
 rotate_left
 ·intro w'
  go_simp
  with_reducible rfl
 rotate_left
 ·simp only [Act.put, List.setIfInBounds_toArray, List.set_cons_zero, List.set_cons_succ, i64_w, i32_w]
  rfl
 refine join_ (σ := Value × Value × Value × Nat) 2 #[true, true, true, true, true, true, true, true, true, false, false] (fun s_ => [(68, s_.1), (69, .tuple #[.agg #[s_.2.1, s_.2.2.1], .bool true]), (64, .tuple #[.agg #[s_.2.1, s_.2.2.1], .bool true]), (70, .agg #[s_.2.1, s_.2.2.1]), (71, .bool true), (12, .pointer (some ⟨s_.2.2.2, 0, none⟩))]) (fun s_ w' => (w'.cell? ⟨gq, 0, none⟩ = some (.slice Aq q.length cq) ∧ w'.cell? ⟨gx, 0, none⟩ = some (.slice Axr wr.length cxr) ∧ w'.cell? ⟨gx, 1, none⟩ = some (.slice Axl wl.length cxl)) ∧ w'.heap[s_.2.2.2]? = some (Obj.cells #[Value.slice none 0 0, Value.slice none 0 0] 24) ∧ Kd.R (Kd.int .i64) 3 w' V.heap.size (fun _ => True) s_.2.1 sr ∧ Kd.R (Kd.int .i64) 3 w' V.heap.size (fun _ => True) s_.2.2.1 sl ∧ Below V.heap.size V w' ∧ V.heap.size ≤ s_.2.2.2) ?_ ?_
 rotate_left
 ·intro hCont
  refine two_ (i := 3) (j := 8) (Ni := some 68) (Nj := some 12) #[true, true, true, true, false, false, false, false, false, false, false] #[true, true, true, false, false, false, false, false, true, false, false] rfl rfl rfl rfl (two_of HT_.out (by kernel_rfl)) (by decide) (by decide) (fun K hK => ?_) (fun K hK => ?_)
  ·refine goes_ Try.func53 (by kernel_rfl) rfl #[.slice Ar row.length cr] (by rfl) rfl rfl (by (try simp only [List.map_toArray, List.map_cons, List.map_nil]); first | done | rfl) ?_
   with_reducible refine (laws_lpBack.calls k _ _ row rb _ Rr_9.out LRr.out Gbk.out).mono ?_
   rintro e V1 ⟨vd, rfl, hR, hb⟩
   refine ⟨_, rfl, ?_⟩
   obtain ⟨Ad, cd, rfl⟩ := Kd.R_slice hR
   have Rd_V1 := am_ (Kd.R_reads' hR).2.2
   have LRd := am_ (Kd.R_reads' hR).2.1
   clear hR
   have XV1 := am_ hb
   clear hb
   refine hK.out _ _ ⟨(blk_cell (blk_below Bq_9.out XV1.out) 0).trans rfl, (blk_cell (blk_below Bx_9.out XV1.out) 0).trans rfl, (blk_cell (blk_below Bx_9.out XV1.out) 1).trans rfl⟩ (fun hHeld => ?_)
   clear hK K
   refine norm_ (a' := ?_) ?_ ?_
   rotate_left
   ·show Act.put _ (some 68) _ = _
    simp only [Act.put, List.setIfInBounds_toArray, List.set_cons_zero, List.set_cons_succ, i64_w, i32_w]
    rfl
   refine two_ (i := 4) (j := 8) (Ni := some 69) (Nj := some 12) #[true, true, true, true, true, false, false, false, false, false, false] #[true, true, true, true, false, false, false, false, true, false, false] rfl rfl rfl rfl (two_of HT_.out (by kernel_rfl)) (by decide) (by decide) (fun K hK => ?_) (fun K hK => ?_)
   ·refine goes_ Try.func61 (by kernel_rfl) rfl #[.agg #[.slice Aq q.length cq], .agg #[.slice Axr wr.length cxr, .slice Axl wl.length cxl], .slice Ad rb.length cd] (by rfl) rfl rfl (by (try simp only [List.map_toArray, List.map_cons, List.map_nil]); first | done | rfl) ?_
    with_reducible refine (impl_TurnSeen.calls k _ _ q _ _ _ wr _ _ wl _ _ rb sr sl true _ (Kd.C_below Rq_9.out XV1.out) LRq.out (Kd.R_V (Kd.R_below Rxr_9.out XV1.out)) (Kd.C_below Rxl_9.out XV1.out) LRxl.out Rd_V1.out LRd.out Gib.out).mono ?_
    rintro e V2 ⟨ve, vf, rfl, hS, hT, hb⟩
    refine ⟨_, rfl, ?_⟩
    obtain ⟨Ae, ce, rfl⟩ := Kd.R_slice hS
    obtain ⟨Af, cf, rfl⟩ := Kd.R_slice hT
    have Re_V2 := am_ (Kd.R_lower (Kd.R_mono (ok' := fun _ => True) hS (fun _ _ => trivial)) XV1.out.size)
    have Rf_V2 := am_ (Kd.R_lower (Kd.R_mono (ok' := fun _ => True) hT (fun _ _ => trivial)) XV1.out.size)
    clear hS hT
    have XV2 := am_ (below_then XV1.out XV1.out.size hb)
    clear hb
    refine hK.out _ _ ⟨(blk_cell (blk_below Bq_9.out XV2.out) 0).trans rfl, (blk_cell (blk_below Bx_9.out XV2.out) 0).trans rfl, (blk_cell (blk_below Bx_9.out XV2.out) 1).trans rfl⟩ (fun hHeld => ?_)
    clear hK K
    refine norm_ (a' := ?_) ?_ ?_
    rotate_left
    ·show Act.put _ (some 69) _ = _
     simp only [Act.put, List.setIfInBounds_toArray, List.set_cons_zero, List.set_cons_succ, i64_w, i32_w]
     rfl
    refine pure_ (i := 5) (N := some 64) (v := ?_) (a' := ?_) #[true, true, true, true, true, true, false, false, false, false, false] rfl rfl (any_of HT_.out (by kernel_rfl)) (fun _ _ _ h => h) (Or.inl ⟨by rfl, ?_⟩) ?_ ?_
    rotate_left
    ·intro w'
     go_simp
     with_reducible rfl
    rotate_left
    ·simp only [Act.put, List.setIfInBounds_toArray, List.set_cons_zero, List.set_cons_succ, i64_w, i32_w]
     rfl
    refine pure_ (i := 6) (N := some 70) (v := ?_) (a' := ?_) #[true, true, true, true, true, true, true, false, false, false, false] rfl rfl (any_of HT_.out (by kernel_rfl)) (fun _ _ _ h => h) (Or.inl ⟨by rfl, ?_⟩) ?_ ?_
    rotate_left
    ·intro w'
     go_simp
     with_reducible rfl
    rotate_left
    ·simp only [Act.put, List.setIfInBounds_toArray, List.set_cons_zero, List.set_cons_succ, i64_w, i32_w]
     rfl
    refine pure_ (i := 7) (N := some 71) (v := ?_) (a' := ?_) #[true, true, true, true, true, true, true, true, false, false, false] rfl rfl (any_of HT_.out (by kernel_rfl)) (fun _ _ _ h => h) (Or.inl ⟨by rfl, ?_⟩) ?_ ?_
    rotate_left
    ·intro w'
     go_simp
     with_reducible rfl
    rotate_left
    ·simp only [Act.put, List.setIfInBounds_toArray, List.set_cons_zero, List.set_cons_succ, i64_w, i32_w]
     rfl
    refine one_ (i := 8) (N := some 12) #[true, true, true, true, true, true, true, true, true, false, false] rfl rfl (one_of HT_.out (by kernel_rfl)) (by decide) (fun K hK => ?_)
    refine box_step (by rfl) (N := 12) rfl (cs := #[Value.slice none 0 0, Value.slice none 0 0]) (t := 24) ?hr ?_
    case hr => first | (go_simp; done) | (go_simp; rfl)
    intro gy hgy V3 hbx hb
    have GY := am_ (show V.heap.size ≤ gy from by rw [hgy]; exact XV2.out.size)
    have Re_V3 := am_ (Kd.R_below Re_V2.out hb)
    have Rf_V3 := am_ (Kd.R_below Rf_V2.out hb)
    have BX_V3 := am_ hbx
    clear hbx hgy
    have XV3 := am_ (below_then XV2.out XV2.out.size hb)
    clear hb
    refine hK.out _ _ ⟨(blk_cell (blk_below Bq_9.out XV3.out) 0).trans rfl, (blk_cell (blk_below Bx_9.out XV3.out) 0).trans rfl, (blk_cell (blk_below Bx_9.out XV3.out) 1).trans rfl⟩ (fun hHeld => ?_)
    clear hK K
    refine norm_ (a' := ?_) ?_ ?_
    rotate_left
    ·show Act.put _ (some 12) _ = _
     simp only [Act.put, List.setIfInBounds_toArray, List.set_cons_zero, List.set_cons_succ, i64_w, i32_w]
     rfl
    have zz := hCont (.slice Ad rb.length cd, .slice Ae sr.length ce, .slice Af sl.length cf, gy) _ ⟨⟨(blk_cell (blk_below Bq_9.out XV3.out) 0).trans rfl, (blk_cell (blk_below Bx_9.out XV3.out) 0).trans rfl, (blk_cell (blk_below Bx_9.out XV3.out) 1).trans rfl⟩, BX_V3.out, Re_V3.out, Rf_V3.out, XV3.out, GY.out⟩
    simp only [putAll, Act.put, List.setIfInBounds_toArray, List.set_cons_zero, List.set_cons_succ] at zz
    exact zz
   refine box_step (by rfl) (N := 12) rfl (cs := #[Value.slice none 0 0, Value.slice none 0 0]) (t := 24) ?hr ?_
   case hr => first | (go_simp; done) | (go_simp; rfl)
   intro gy hgy V4 hbx hb
   have GY := am_ (show V.heap.size ≤ gy from by rw [hgy]; exact XV1.out.size)
   have Rd_V4 := am_ (Kd.C_below Rd_V1.out hb)
   have BX_V4 := am_ hbx
   clear hbx hgy
   have XV4 := am_ (below_then XV1.out XV1.out.size hb)
   clear hb
   refine hK.out _ _ ⟨(blk_cell (blk_below Bq_9.out XV4.out) 0).trans rfl, (blk_cell (blk_below Bx_9.out XV4.out) 0).trans rfl, (blk_cell (blk_below Bx_9.out XV4.out) 1).trans rfl⟩ (fun hHeld => ?_)
   clear hK K
   refine norm_ (a' := ?_) ?_ ?_
   rotate_left
   ·show Act.put _ (some 12) _ = _
    simp only [Act.put, List.setIfInBounds_toArray, List.set_cons_zero, List.set_cons_succ, i64_w, i32_w]
    rfl
   refine one_ (i := 4) (N := some 69) #[true, true, true, true, true, false, false, false, true, false, false] rfl rfl (one_of HT_.out (by kernel_rfl)) (by decide) (fun K hK => ?_)
   refine goes_ Try.func61 (by kernel_rfl) rfl #[.agg #[.slice Aq q.length cq], .agg #[.slice Axr wr.length cxr, .slice Axl wl.length cxl], .slice Ad rb.length cd] (by rfl) rfl rfl (by (try simp only [List.map_toArray, List.map_cons, List.map_nil]); first | done | rfl) ?_
   with_reducible refine (impl_TurnSeen.calls k _ _ q _ _ _ wr _ _ wl _ _ rb sr sl true _ (Kd.C_below Rq_9.out XV4.out) LRq.out (Kd.R_V (Kd.R_below Rxr_9.out XV4.out)) (Kd.C_below Rxl_9.out XV4.out) LRxl.out Rd_V4.out LRd.out Gib.out).mono ?_
   rintro e V5 ⟨ve, vf, rfl, hS, hT, hb⟩
   refine ⟨_, rfl, ?_⟩
   obtain ⟨Ae, ce, rfl⟩ := Kd.R_slice hS
   obtain ⟨Af, cf, rfl⟩ := Kd.R_slice hT
   have BX_V5 := am_ (blk_below BX_V4.out hb)
   have Re_V5 := am_ (Kd.R_lower (Kd.R_mono (ok' := fun _ => True) hS (fun _ _ => trivial)) XV4.out.size)
   have Rf_V5 := am_ (Kd.R_lower (Kd.R_mono (ok' := fun _ => True) hT (fun _ _ => trivial)) XV4.out.size)
   clear hS hT
   have XV5 := am_ (below_then XV4.out XV4.out.size hb)
   clear hb
   refine hK.out _ _ ⟨(blk_cell (blk_below Bq_9.out XV5.out) 0).trans rfl, (blk_cell (blk_below Bx_9.out XV5.out) 0).trans rfl, (blk_cell (blk_below Bx_9.out XV5.out) 1).trans rfl⟩ (fun hHeld => ?_)
   clear hK K
   refine norm_ (a' := ?_) ?_ ?_
   rotate_left
   ·show Act.put _ (some 69) _ = _
    simp only [Act.put, List.setIfInBounds_toArray, List.set_cons_zero, List.set_cons_succ, i64_w, i32_w]
    rfl
   refine pure_ (i := 5) (N := some 64) (v := ?_) (a' := ?_) #[true, true, true, true, true, true, false, false, true, false, false] rfl rfl (any_of HT_.out (by kernel_rfl)) (fun _ _ _ h => h) (Or.inl ⟨by rfl, ?_⟩) ?_ ?_
   rotate_left
   ·intro w'
    go_simp
    with_reducible rfl
   rotate_left
   ·simp only [Act.put, List.setIfInBounds_toArray, List.set_cons_zero, List.set_cons_succ, i64_w, i32_w]
    rfl
   refine pure_ (i := 6) (N := some 70) (v := ?_) (a' := ?_) #[true, true, true, true, true, true, true, false, true, false, false] rfl rfl (any_of HT_.out (by kernel_rfl)) (fun _ _ _ h => h) (Or.inl ⟨by rfl, ?_⟩) ?_ ?_
   rotate_left
   ·intro w'
    go_simp
    with_reducible rfl
   rotate_left
   ·simp only [Act.put, List.setIfInBounds_toArray, List.set_cons_zero, List.set_cons_succ, i64_w, i32_w]
    rfl
   refine pure_ (i := 7) (N := some 71) (v := ?_) (a' := ?_) #[true, true, true, true, true, true, true, true, true, false, false] rfl rfl (any_of HT_.out (by kernel_rfl)) (fun _ _ _ h => h) (Or.inl ⟨by rfl, ?_⟩) ?_ ?_
   rotate_left
   ·intro w'
    go_simp
    with_reducible rfl
   rotate_left
   ·simp only [Act.put, List.setIfInBounds_toArray, List.set_cons_zero, List.set_cons_succ, i64_w, i32_w]
    rfl
   have zz := hCont (.slice Ad rb.length cd, .slice Ae sr.length ce, .slice Af sl.length cf, gy) _ ⟨⟨(blk_cell (blk_below Bq_9.out XV5.out) 0).trans rfl, (blk_cell (blk_below Bx_9.out XV5.out) 0).trans rfl, (blk_cell (blk_below Bx_9.out XV5.out) 1).trans rfl⟩, BX_V5.out, Re_V5.out, Rf_V5.out, XV5.out, GY.out⟩
   simp only [putAll, Act.put, List.setIfInBounds_toArray, List.set_cons_zero, List.set_cons_succ] at zz
   exact zz
  refine box_step (by rfl) (N := 12) rfl (cs := #[Value.slice none 0 0, Value.slice none 0 0]) (t := 24) ?hr ?_
  case hr => first | (go_simp; done) | (go_simp; rfl)
  intro gy hgy V6 hbx hb
  have GY := am_ (show V.heap.size ≤ gy from by rw [hgy]; exact Nat.le_refl _)
  have BX_V6 := am_ hbx
  clear hbx hgy
  have XV6 := am_ hb
  clear hb
  refine hK.out _ _ ⟨(blk_cell (blk_below Bq_9.out XV6.out) 0).trans rfl, (blk_cell (blk_below Bx_9.out XV6.out) 0).trans rfl, (blk_cell (blk_below Bx_9.out XV6.out) 1).trans rfl⟩ (fun hHeld => ?_)
  clear hK K
  refine norm_ (a' := ?_) ?_ ?_
  rotate_left
  ·show Act.put _ (some 12) _ = _
   simp only [Act.put, List.setIfInBounds_toArray, List.set_cons_zero, List.set_cons_succ, i64_w, i32_w]
   rfl
  refine one_ (i := 3) (N := some 68) #[true, true, true, true, false, false, false, false, true, false, false] rfl rfl (one_of HT_.out (by kernel_rfl)) (by decide) (fun K hK => ?_)
  refine goes_ Try.func53 (by kernel_rfl) rfl #[.slice Ar row.length cr] (by rfl) rfl rfl (by (try simp only [List.map_toArray, List.map_cons, List.map_nil]); first | done | rfl) ?_
  with_reducible refine (laws_lpBack.calls k _ _ row rb _ (Kd.C_below Rr_9.out XV6.out) LRr.out Gbk.out).mono ?_
  rintro e V7 ⟨vd, rfl, hR, hb⟩
  refine ⟨_, rfl, ?_⟩
  obtain ⟨Ad, cd, rfl⟩ := Kd.R_slice hR
  have BX_V7 := am_ (blk_below BX_V6.out hb)
  have Rd_V7 := am_ (Kd.R_reads' hR).2.2
  have LRd := am_ (Kd.R_reads' hR).2.1
  clear hR
  have XV7 := am_ (below_then XV6.out XV6.out.size hb)
  clear hb
  refine hK.out _ _ ⟨(blk_cell (blk_below Bq_9.out XV7.out) 0).trans rfl, (blk_cell (blk_below Bx_9.out XV7.out) 0).trans rfl, (blk_cell (blk_below Bx_9.out XV7.out) 1).trans rfl⟩ (fun hHeld => ?_)
  clear hK K
  refine norm_ (a' := ?_) ?_ ?_
  rotate_left
  ·show Act.put _ (some 68) _ = _
   simp only [Act.put, List.setIfInBounds_toArray, List.set_cons_zero, List.set_cons_succ, i64_w, i32_w]
   rfl
  refine one_ (i := 4) (N := some 69) #[true, true, true, true, true, false, false, false, true, false, false] rfl rfl (one_of HT_.out (by kernel_rfl)) (by decide) (fun K hK => ?_)
  refine goes_ Try.func61 (by kernel_rfl) rfl #[.agg #[.slice Aq q.length cq], .agg #[.slice Axr wr.length cxr, .slice Axl wl.length cxl], .slice Ad rb.length cd] (by rfl) rfl rfl (by (try simp only [List.map_toArray, List.map_cons, List.map_nil]); first | done | rfl) ?_
  with_reducible refine (impl_TurnSeen.calls k _ _ q _ _ _ wr _ _ wl _ _ rb sr sl true _ (Kd.C_below Rq_9.out XV7.out) LRq.out (Kd.R_V (Kd.R_below Rxr_9.out XV7.out)) (Kd.C_below Rxl_9.out XV7.out) LRxl.out Rd_V7.out LRd.out Gib.out).mono ?_
  rintro e V8 ⟨ve, vf, rfl, hS, hT, hb⟩
  refine ⟨_, rfl, ?_⟩
  obtain ⟨Ae, ce, rfl⟩ := Kd.R_slice hS
  obtain ⟨Af, cf, rfl⟩ := Kd.R_slice hT
  have BX_V8 := am_ (blk_below BX_V7.out hb)
  have Re_V8 := am_ (Kd.R_lower (Kd.R_mono (ok' := fun _ => True) hS (fun _ _ => trivial)) XV7.out.size)
  have Rf_V8 := am_ (Kd.R_lower (Kd.R_mono (ok' := fun _ => True) hT (fun _ _ => trivial)) XV7.out.size)
  clear hS hT
  have XV8 := am_ (below_then XV7.out XV7.out.size hb)
  clear hb
  refine hK.out _ _ ⟨(blk_cell (blk_below Bq_9.out XV8.out) 0).trans rfl, (blk_cell (blk_below Bx_9.out XV8.out) 0).trans rfl, (blk_cell (blk_below Bx_9.out XV8.out) 1).trans rfl⟩ (fun hHeld => ?_)
  clear hK K
  refine norm_ (a' := ?_) ?_ ?_
  rotate_left
  ·show Act.put _ (some 69) _ = _
   simp only [Act.put, List.setIfInBounds_toArray, List.set_cons_zero, List.set_cons_succ, i64_w, i32_w]
   rfl
  refine pure_ (i := 5) (N := some 64) (v := ?_) (a' := ?_) #[true, true, true, true, true, true, false, false, true, false, false] rfl rfl (any_of HT_.out (by kernel_rfl)) (fun _ _ _ h => h) (Or.inl ⟨by rfl, ?_⟩) ?_ ?_
  rotate_left
  ·intro w'
   go_simp
   with_reducible rfl
  rotate_left
  ·simp only [Act.put, List.setIfInBounds_toArray, List.set_cons_zero, List.set_cons_succ, i64_w, i32_w]
   rfl
  refine pure_ (i := 6) (N := some 70) (v := ?_) (a' := ?_) #[true, true, true, true, true, true, true, false, true, false, false] rfl rfl (any_of HT_.out (by kernel_rfl)) (fun _ _ _ h => h) (Or.inl ⟨by rfl, ?_⟩) ?_ ?_
  rotate_left
  ·intro w'
   go_simp
   with_reducible rfl
  rotate_left
  ·simp only [Act.put, List.setIfInBounds_toArray, List.set_cons_zero, List.set_cons_succ, i64_w, i32_w]
   rfl
  refine pure_ (i := 7) (N := some 71) (v := ?_) (a' := ?_) #[true, true, true, true, true, true, true, true, true, false, false] rfl rfl (any_of HT_.out (by kernel_rfl)) (fun _ _ _ h => h) (Or.inl ⟨by rfl, ?_⟩) ?_ ?_
  rotate_left
  ·intro w'
   go_simp
   with_reducible rfl
  rotate_left
  ·simp only [Act.put, List.setIfInBounds_toArray, List.set_cons_zero, List.set_cons_succ, i64_w, i32_w]
   rfl
  have zz := hCont (.slice Ad rb.length cd, .slice Ae sr.length ce, .slice Af sl.length cf, gy) _ ⟨⟨(blk_cell (blk_below Bq_9.out XV8.out) 0).trans rfl, (blk_cell (blk_below Bx_9.out XV8.out) 0).trans rfl, (blk_cell (blk_below Bx_9.out XV8.out) 1).trans rfl⟩, BX_V8.out, Re_V8.out, Rf_V8.out, XV8.out, GY.out⟩
  simp only [putAll, Act.put, List.setIfInBounds_toArray, List.set_cons_zero, List.set_cons_succ] at zz
  exact zz
 rintro ⟨vd, ve, vf, gy⟩ V20 ⟨-, hbx, hS, hT, hb, hgy⟩
 simp only at hbx hS hT hgy
 obtain ⟨Ae, ce, rfl⟩ := Kd.R_slice hS
 obtain ⟨Af, cf, rfl⟩ := Kd.R_slice hT
 refine norm_ (a' := ?_) ?_ ?_
 rotate_left
 ·simp only [putAll, Act.put, List.setIfInBounds_toArray, List.set_cons_zero, List.set_cons_succ, i64_w, i32_w]
  rfl
 refine one_ (i := 9) (N := none) #[true, true, true, true, true, true, true, true, true, true, false] rfl rfl (one_of HT_.out (by kernel_rfl)) (by decide) (fun K hK => ?_)
 have hs18 : V20.cell? ⟨gy, 0, none⟩ = some (.slice none 0 0) := (blk_cell hbx 0).trans rfl
 have hs19 : V20.cell? ⟨gy, 1, none⟩ = some (.slice none 0 0) := (blk_cell hbx 1).trans rfl
 have hfs18 := blk_frozen hbx 0
 have hfs19 := blk_frozen hbx 1
 refine skip_ (w1 := ?_) (by rfl) rfl ?_ ?_
 rotate_left
 ·go_simp
  rfl
 clear hs18 hfs18 hs19 hfs19
 have hbx1 := blk_set hbx 0 (.slice Ae sr.length ce)
 have hbS := below_set (g := gy) (j := 1) (v := .slice Af sl.length cf) (below_set (g := gy) (j := 0) (v := .slice Ae sr.length ce) hb hgy) hgy
 have hS' := Kd.R_set (Kd.R_set hS hbx (by decide) 0 (.slice Ae sr.length ce)) hbx1 (by decide) 1 (.slice Af sl.length cf)
 have hT' := Kd.R_set (Kd.R_set hT hbx (by decide) 0 (.slice Ae sr.length ce)) hbx1 (by decide) 1 (.slice Af sl.length cf)
 have Rs_10 := am_ (Kd.R_below Rs_9.out hbS)
 have Rl_10 := am_ (Kd.C_below Rl_9.out hbS)
 have Rr_10 := am_ (Kd.C_below Rr_9.out hbS)
 have Rxr_10 := am_ (Kd.R_below Rxr_9.out hbS)
 have Rxl_10 := am_ (Kd.C_below Rxl_9.out hbS)
 have Rq_10 := am_ (Kd.C_below Rq_9.out hbS)
 have Bs_10 := am_ (blk_below Bs_9.out hbS)
 have Bx_10 := am_ (blk_below Bx_9.out hbS)
 have Bq_10 := am_ (blk_below Bq_9.out hbS)
 have HB_10 := am_ (below_then HB_9.out HB_9.out.size hbS)
 clear Rs_9 Rl_9 Rr_9 Rxr_9 Rxl_9 Rq_9 Bs_9 Bx_9 Bq_9 HB_9
 have Re_n := am_ (Kd.R_reads' hS').2.2
 have LRe := am_ (Kd.R_reads' hS').2.1
 have Rf_n := am_ (Kd.R_reads' hT').2.2
 have LRf := am_ (Kd.R_reads' hT').2.1
 have By_n := am_ (show ((V20.setCell ⟨gy, 0, none⟩ (.slice Ae sr.length ce)).setCell ⟨gy, 1, none⟩ (.slice Af sl.length cf)).heap[gy]? = some (Obj.cells #[Value.slice Ae sr.length ce, Value.slice Af sl.length cf] 24) from blk_set hbx1 1 (.slice Af sl.length cf))
 clear hbx hbx1 hS hT hS' hT' hb hbS hgy
 refine hK.out _ _ ⟨(blk_cell Bq_10.out 0).trans rfl, (blk_cell Bx_10.out 0).trans rfl, (blk_cell Bx_10.out 1).trans rfl⟩ (fun hHeld => ?_)
 clear hK K
 refine pure_ (i := 10) (N := some 13) (v := ?_) (a' := ?_) #[true, true, true, true, true, true, true, true, true, true, true] rfl rfl (any_of HT_.out (by kernel_rfl)) (fun _ _ _ h => h) (Or.inl ⟨by rfl, ?_⟩) ?_ ?_
 rotate_left
 ·intro w'
  go_simp
  with_reducible rfl
 rotate_left
 ·simp only [Act.put, List.setIfInBounds_toArray, List.set_cons_zero, List.set_cons_succ, i64_w, i32_w]
  rfl
 refine done_ (done_of HT_.out (by kernel_rfl)) ?_
 clear HT_ HW_ hHeld
 generalize ((V20.setCell ⟨gy, 0, none⟩ (.slice Ae sr.length ce)).setCell ⟨gy, 1, none⟩ (.slice Af sl.length cf)) = V21 at *
 have hl0 : V21.cell? ⟨gq, 0, none⟩ = some (.slice Aq q.length cq) := (blk_cell Bq_10.out 0).trans rfl
 have hl1 : V21.cell? ⟨gx, 0, none⟩ = some (.slice Axr wr.length cxr) := (blk_cell Bx_10.out 0).trans rfl
 have hl2 : V21.cell? ⟨gx, 1, none⟩ = some (.slice Axl wl.length cxl) := (blk_cell Bx_10.out 1).trans rfl
 go_wp2_with (go_at_call 63; refine park ?_)
 clear hl0 hl1 hl2
 refine ⟨?_⟩
 refine (impl_SeenOk.calls k _ _ q _ _ wr _ _ wl true _ Rq_10.out LRq.out (Kd.R_reads' Rxr_10.out).2.2 (Kd.R_reads' Rxr_10.out).2.1 Rxl_10.out LRxl.out Gsk.out).mono ?_
 rintro e V22 ⟨rfl, hb⟩
 have Rs_11 := am_ (Kd.R_below Rs_10.out hb)
 have Rl_11 := am_ (Kd.C_below Rl_10.out hb)
 have Rr_11 := am_ (Kd.C_below Rr_10.out hb)
 have Rxr_11 := am_ (Kd.R_below Rxr_10.out hb)
 have Rxl_11 := am_ (Kd.C_below Rxl_10.out hb)
 have Rq_11 := am_ (Kd.C_below Rq_10.out hb)
 have Re_11 := am_ (Kd.C_below Re_n.out hb)
 have Rf_11 := am_ (Kd.C_below Rf_n.out hb)
 have Bs_11 := am_ (blk_below Bs_10.out hb)
 have Bx_11 := am_ (blk_below Bx_10.out hb)
 have Bq_11 := am_ (blk_below Bq_10.out hb)
 have By_11 := am_ (blk_below By_n.out hb)
 have HB_11 := am_ (below_then HB_10.out HB_10.out.size hb)
 clear Rs_10 Rl_10 Rr_10 Rxr_10 Rxl_10 Rq_10 Re_n Rf_n Bs_10 Bx_10 Bq_10 By_n HB_10 hb
 have hl0 : V22.cell? ⟨gy, 0, none⟩ = some (.slice Ae sr.length ce) := (blk_cell By_11.out 0).trans rfl
 have hl1 : V22.cell? ⟨gy, 1, none⟩ = some (.slice Af sl.length cf) := (blk_cell By_11.out 1).trans rfl
 have hl2 : V22.cell? ⟨gp + 1, 0, none⟩ = some (.slice As sr.length cs) := (blk_cell Bs_11.out 0).trans rfl
 have hl3 : V22.cell? ⟨gp + 1, 1, none⟩ = some (.slice Al sl.length cl) := (blk_cell Bs_11.out 1).trans rfl
 go_wp2_with (go_at_call 62; refine park ?_)
 clear hl0 hl1 hl2 hl3
 refine ⟨?_⟩
 refine (laws_lpSame.calls k _ _ sr _ _ sl _ _ sr _ _ sl true _ Re_11.out LRe.out Rf_11.out LRf.out (Kd.R_reads' Rs_11.out).2.2 (Kd.R_reads' Rs_11.out).2.1 Rl_11.out LRl.out Gss.out).mono ?_
 rintro e V23 ⟨rfl, hb⟩
 have Rs_12 := am_ (Kd.R_below Rs_11.out hb)
 have Rl_12 := am_ (Kd.C_below Rl_11.out hb)
 have Rr_12 := am_ (Kd.C_below Rr_11.out hb)
 have Rxr_12 := am_ (Kd.R_below Rxr_11.out hb)
 have Rxl_12 := am_ (Kd.C_below Rxl_11.out hb)
 have Rq_12 := am_ (Kd.C_below Rq_11.out hb)
 have Re_12 := am_ (Kd.C_below Re_11.out hb)
 have Rf_12 := am_ (Kd.C_below Rf_11.out hb)
 have Bs_12 := am_ (blk_below Bs_11.out hb)
 have Bx_12 := am_ (blk_below Bx_11.out hb)
 have Bq_12 := am_ (blk_below Bq_11.out hb)
 have By_12 := am_ (blk_below By_11.out hb)
 have HB_12 := am_ (below_then HB_11.out HB_11.out.size hb)
 clear Rs_11 Rl_11 Rr_11 Rxr_11 Rxl_11 Rq_11 Re_11 Rf_11 Bs_11 Bx_11 Bq_11 By_11 HB_11 hb
 go_wp2_with fail
 refine bodyPost_ret (results_tmp rfl _ _ _) rfl ?_
 exact ⟨rfl, HB_12.out⟩
theorem laws_FnTurnSeen.walk (P : laws_FnTurnSeen.Pure) (a0 : Option Addr) (len0 cap0 : Nat) (z0 : List Int) (w : World) (w0 : (a0 = none ∧ len0 = 0 ∧ cap0 = 0 ∧ z0 = []) ∨ ∃ x, a0 = some x ∧ len0 ≤ cap0 ∧ cap0 ≤ maxLen ∧ z0.length = cap0 ∧ (∀ i, i < z0.length → w.cell? (x.add i) = some (.int .u8 (z0.getD i 0))) ∧ ∀ n ∈ z0, (Lit.int .u8 n).wf = true) (y0 : len0 * 1 ≤ 140737488351232) :
  Calls Try.prog 20 #[.slice a0 len0 cap0] w fun e w' => e = .returned (.bool true) ∧ Below w.heap.size w w' := by
 obtain ⟨l0, rfl, hr0, hm0, hw0, hc0⟩ := ReadsInt.ofRowC w0
 refine (laws_FnTurnSeen.calls _ _ l0 w (Kd.C_of_reads (d := (0 : Int)) (h1 := fun _ => rfl) hr0) hc0 hw0 P).mono ?_
 rintro e w' ⟨rfl, hd⟩
 exact ⟨rfl, hd⟩


end Go.Proofs.Ytefkbmhkhpekjaa.PB

namespace Go.Proofs.Ytefkbmhkhpekjaa.Pure
open Go.RowKit Go.Proofs.Ytefkbmhkhpekjaa.PB Go.Proofs.YtefkbmhkhpekjaaW.PrintWords Go.Proofs.YtefkbmhkhpekjaaW.PrintLast
set_option linter.unusedVariables false

/-- From .. to. -/
def cutI (sr : List Int) (a b : Int) : List Int := (sr.take b.toNat).drop a.toNat
theorem cutI_le (sr : List Int) (a b : Int) : (cutI sr a b).length ≤ sr.length := by unfold cutI; simp; omega
/-- The reads of each thread, the first from place s on. -/
def partsR : List (List S85) → List Int → Int → List (List Int)
  | [], _, _ => []
  | t :: p, sr, s => cutI sr s (s + readsI t) :: partsR p sr (s + readsI t)
/-- Where each thread's reads begin, and the end. -/
def preL : List (List S85) → Int → List Int
  | [], s => [s]
  | t :: p, s => s :: preL p (s + readsI t)
theorem partsR_length : ∀ (p : List (List S85)) (sr : List Int) (s : Int), (partsR p sr s).length = p.length
  | [], _, _ => rfl
  | t :: p, sr, s => by simp [partsR, partsR_length p]
theorem preL_length : ∀ (p : List (List S85)) (s : Int), (preL p s).length = p.length + 1
  | [], _ => rfl
  | t :: p, s => by simp [preL, preL_length p]
theorem preL_zero (p : List (List S85)) (s : Int) : (preL p s).getD 0 0 = s := by cases p <;> rfl
theorem preL_snoc : ∀ (p : List (List S85)) (t : List S85) (s : Int), preL (p ++ [t]) s = preL p s ++ [s + readsP p + readsI t]
  | [], t, s => by simp [preL, readsP]
  | u :: p, t, s => by
    simp only [List.cons_append, preL, preL_snoc p t, readsP]
    rw [show s + readsI u + readsP p + readsI t = s + (readsI u + readsP p) + readsI t by omega]
theorem preL_last : ∀ (p : List (List S85)) (s : Int), (preL p s).getD p.length 0 = s + readsP p
  | [], s => by simp [preL, readsP]
  | u :: p, s => by
    simp only [preL, List.length_cons, List.getD_cons_succ, preL_last p, readsP]
    omega
theorem readsP_pos : ∀ p : List (List S85), 0 ≤ readsP p
  | [] => by simp [readsP]
  | t :: p => by have := readsP_pos p; have := (readsI_le t).1; simp only [readsP]; omega
theorem readsP_snoc : ∀ (p : List (List S85)) (t : List S85), readsP (p ++ [t]) = readsP p + readsI t
  | [], t => by simp [readsP]
  | u :: p, t => by simp only [List.cons_append, readsP, readsP_snoc p t]; omega
theorem readsP_app' : ∀ p q : List (List S85), readsP (p ++ q) = readsP p + readsP q
  | [], q => by simp [readsP]
  | t :: p, q => by simp only [List.cons_append, readsP, readsP_app' p q]; omega
/-- A part is what lies between two begins. -/
theorem parts_pre : ∀ (p : List (List S85)) (sr : List Int) (s : Int) (j : Nat), j < p.length → (partsR p sr s).getD j [] = cutI sr ((preL p s).getD j 0) ((preL p s).getD (j + 1) 0)
  | [], _, _, j, h => absurd h (by simp)
  | t :: p, sr, s, 0, _ => by
    simp only [partsR, preL, List.getD_cons_zero, List.getD_cons_succ, preL_zero]
  | t :: p, sr, s, j + 1, h => by
    simp only [partsR, preL, List.getD_cons_succ]
    exact parts_pre p sr (s + readsI t) j (by simpa using h)
theorem pre_mono : ∀ (p : List (List S85)) (s : Int) (j : Nat), j < p.length → s ≤ (preL p s).getD j 0 ∧ (preL p s).getD j 0 ≤ (preL p s).getD (j + 1) 0 ∧ (preL p s).getD (j + 1) 0 ≤ s + readsP p
  | [], _, j, h => absurd h (by simp)
  | t :: p, s, 0, _ => by
    have h1 := readsP_pos p
    have h2 := (readsI_le t).1
    simp only [preL, List.getD_cons_zero, List.getD_cons_succ, preL_zero, readsP]
    omega
  | t :: p, s, j + 1, h => by
    have h1 := (readsI_le t).1
    have := pre_mono p (s + readsI t) j (by simpa using h)
    simp only [preL, List.getD_cons_succ, readsP]
    omega
/-- The reads, turned. -/
def turnR (p : List (List S85)) (sr row : List Int) : List Int := (row.map (rd_L4 (partsR p sr 0))).flatten
def seenT (p : List (List S85)) (sr sl row : List Int) : List Int × List Int × Bool := if okS p sr sl = true ∧ rowB row p.length = true then (turnR p sr row, sl, true) else ([], [], false)
theorem iSeen1 (ps : List (List Int)) (row sl : List Int) (hr : row.length ≤ 1000) (hin : ∀ x ∈ row, 0 ≤ x ∧ x < (ps.length : Int)) (hps : ∀ x, (rd_L4 ps x).length ≤ 1048576) : ∀ (m : Nat) (out : List Int), m ≤ row.length → out.length + 1048576 * m ≤ 10000000000 →
    Ev (fun k => impl_TurnSeen.l1 k ps row (row.length : Int) ((row.length - m : Nat) : Int) out sl) (out ++ ((row.drop (row.length - m)).map (rd_L4 ps)).flatten, sl, true)
  | 0, out, _, _ => by
    refine Ev.succ (Ev.now fun k => ?_)
    simp [impl_TurnSeen.l1]
  | m + 1, out, hm, ho => by
    have hlt : row.length - (m + 1) < row.length := by omega
    have hd : row.drop (row.length - (m + 1)) = row[row.length - (m + 1)] :: row.drop (row.length - m) := by
      rw [List.drop_eq_getElem_cons hlt, show row.length - (m + 1) + 1 = row.length - m by omega]
    have hx := hin _ (List.getElem_mem hlt)
    have hl := hps row[row.length - (m + 1)]
    rw [hd]
    refine Ev.succ ?_
    simp only [impl_TurnSeen.l1, rd_get hlt, if_pos (show ((row.length - (m + 1) : Nat) : Int) < (row.length : Int) by omega), if_pos (show (0 : Int) ≤ ((row.length - (m + 1) : Nat) : Int) by omega), if_pos hx.1, if_pos hx.2, if_pos (show out.length + (rd_L4 ps row[row.length - (m + 1)]).length < 17592186044416 by omega)]
    rw [w64' (by omega) (by omega), show ((row.length - (m + 1) : Nat) : Int) + 1 = ((row.length - m : Nat) : Int) by omega]
    exact (iSeen1 ps row sl hr hin hps m _ (by omega) (by simp; omega)).of (by simp)
theorem iSeen0 (row sr sl : List Int) (hsl : sl.length ≤ 1000) (p : List (List S85)) (hp : Short p) (hsr : (sr.length : Int) = readsP p) (hsr2 : sr.length ≤ 1048576) (R : List Int × List Int × Bool)
    (hR : Ev (fun k => impl_TurnSeen.l1 k (partsR p sr 0) row (row.length : Int) 0 [] sl) R) : ∀ (b a : List (List S85)) (q : List (List Int)), p = a ++ b → q.length = a.length → partsR p sr 0 = q ++ partsR b sr (readsP a) →
    Ev (fun k => impl_TurnSeen.l0 k row (q ++ List.replicate b.length []) (readsP a) p (p.length : Int) (a.length : Int) sr sl) R
  | [], a, q, hab, hq, hpr => by
    refine Ev.succ ?_
    have hl : p.length = a.length := by rw [hab]; simp
    simp only [impl_TurnSeen.l0, hl, Int.lt_irrefl, if_false, List.length_nil, List.replicate_zero, List.append_nil, slices_Clone_int_int.f, if_pos (show sl.length < 1048577 by omega), Option.bind_some]
    rw [show q = partsR p sr 0 by rw [hpr]; simp [partsR]]
    exact hR
  | t :: b, a, q, hab, hq, hpr => by
    have hlt : a.length < p.length := by rw [hab]; simp
    have hg : rd_L7 p (a.length : Int) = t := by
      rw [rd_L7_get hlt]
      simp [hab]
    have ht : t.length ≤ 1048576 := hp.2 t (by rw [hab]; simp)
    have hp1 := hp.1
    have e1 := readsP_pos a
    have e2 := readsP_pos b
    have e3 := readsI_le t
    have e4 : readsP p = readsP a + (readsI t + readsP b) := by rw [hab, readsP_app']; simp [readsP]
    refine Ev.succ ?_
    simp only [impl_TurnSeen.l0, hg, if_pos (show (a.length : Int) < (p.length : Int) by omega), if_pos (show (0 : Int) ≤ (a.length : Int) by omega)]
    refine Ev.bind (readsOf t ht) ?_
    rw [w64' (x := readsP a + readsI t) (by omega) (by omega), w64' (by omega) (by omega)]
    simp only [if_pos e1, if_pos (show readsP a ≤ readsP a + readsI t by omega), if_pos (show readsP a + readsI t ≤ (sr.length : Int) by omega), if_pos (show (a.length : Int) < ((q ++ List.replicate (t :: b).length ([] : List Int)).length : Int) by simp; omega), Int.toNat_natCast]
    have hs : (q ++ List.replicate (t :: b).length ([] : List Int)).set a.length ((sr.take (readsP a + readsI t).toNat).drop (readsP a).toNat) = (q ++ [cutI sr (readsP a) (readsP a + readsI t)]) ++ List.replicate b.length [] := by
      rw [List.length_cons, List.replicate_succ, List.set_append_right (h := by omega), show a.length - q.length = 0 by omega, List.set_cons_zero]
      simp [cutI]
    rw [hs]
    have ih := iSeen0 row sr sl hsl p hp hsr hsr2 R hR b (a ++ [t]) (q ++ [cutI sr (readsP a) (readsP a + readsI t)]) (by rw [hab]; simp) (by simp [hq]) (by rw [hpr, readsP_snoc]; simp [partsR])
    rw [readsP_snoc] at ih
    simpa using ih
theorem part_le (p : List (List S85)) (sr : List Int) (h : sr.length ≤ 1048576) (x : Int) : (rd_L4 (partsR p sr 0) x).length ≤ 1048576 := by
  unfold rd_L4
  rw [List.getD_eq_getElem?_getD]
  rcases e : (partsR p sr 0)[x.toNat]? with _ | t
  · simp
  · have : ∀ (p : List (List S85)) (s : Int), ∀ t ∈ partsR p sr s, t.length ≤ sr.length := by
      intro p
      induction p with
      | nil => intro s t ht; cases ht
      | cons u p ih =>
        intro s t ht
        rcases List.mem_cons.1 ht with rfl | ht
        · exact cutI_le _ _ _
        · exact ih _ t ht
    exact Nat.le_trans (this p 0 t (List.mem_of_getElem? e)) h
theorem okS_parts {p : List (List S85)} {sr sl : List Int} (h : okS p sr sl = true) : okP p = true ∧ (sr.length : Int) = readsP p ∧ sl.length = 3 := by
  unfold okS at h
  simp only [Bool.and_eq_true, decide_eq_true_eq] at h
  exact ⟨h.1.1.1.1, h.1.1.1.2, h.1.1.2⟩
theorem iSeenTurn (p : List (List S85)) (hp : Mid p) (sr sl row : List Int) (h4 : sr.length ≤ 1048576) (h5 : sl.length ≤ 1048576) (hr : row.length ≤ 1048576) : Ev (fun k => impl_TurnSeen.f k p sr sl row) (seenT p sr sl row) := by
  unfold impl_TurnSeen.f seenT
  refine Ev.bind (iSeenOk p hp sr sl) ?_
  cases ho : okS p sr sl
  · simp only [Bool.false_eq_true, if_false, false_and]
    refine Ev.succ ?_
    simp only [impl_TurnSeen.j0, if_true]
    exact Ev.const
  obtain ⟨o1, o2, o3⟩ := okS_parts ho
  have h3 := okP_len o1
  have hs := hp.short h3
  simp only [if_true, true_and]
  refine Ev.bind (iRow row hr p.length (by omega)) ?_
  cases hb : rowB row p.length
  · simp only [Bool.not_false, Bool.false_eq_true, if_false]
    refine Ev.succ ?_
    simp only [impl_TurnSeen.j0, if_true]
    exact Ev.const
  · simp only [Bool.not_true, if_true]
    refine Ev.succ ?_
    simp only [impl_TurnSeen.j0, Bool.false_eq_true, if_false, Int.toNat_natCast, if_pos (show (0 : Int) ≤ (p.length : Int) by omega), if_pos (show p.length ≤ 11728124029610 by omega)]
    have hrl := row_len hb
    have h1 := iSeen1 (partsR p sr 0) row sl (by omega) (by rw [partsR_length]; exact row_in h3 hb) (part_le p sr h4) row.length [] (Nat.le_refl _) (by simp; omega)
    rw [Nat.sub_self] at h1
    have h0 := iSeen0 row sr sl (by omega) p hs o2 h4 (turnR p sr row, sl, true) (by unfold turnR; simpa using h1) p [] [] rfl rfl rfl
    simpa [readsP] using h0
theorem okP_one {p : List (List S85)} (h : okP p = true) : ∀ t ∈ p, okP [t] = true := by
  have key : ∀ (l : List (List S85)) (n u : Int), 0 ≤ n → 0 ≤ u → okL l n u = true → (n ≤ 14 ∧ u ≤ 6) ∧ ∀ t ∈ l, okP [t] = true := by
    intro l
    induction l with
    | nil =>
      intro n u _ _ h
      simp only [okL, Bool.and_eq_true, decide_eq_true_eq] at h
      exact ⟨by omega, fun t ht => by cases ht⟩
    | cons t l ih =>
      intro n u h0 h1 h
      simp only [okL, Bool.and_eq_true] at h
      have hu := usesI_le t
      obtain ⟨h2, h3⟩ := ih _ _ (by omega) (by omega) h.2
      refine ⟨by omega, fun x hx => ?_⟩
      rcases List.mem_cons.1 hx with rfl | hx
      · unfold okP
        simp only [okL, h.1, List.length_singleton, Bool.true_and, Int.zero_add, Bool.and_eq_true, decide_eq_true_eq]
        omega
      · exact h3 x hx
  unfold okP at h
  rw [Bool.and_eq_true] at h
  exact (key p 0 0 (by omega) (by omega) h.2).2
theorem sSeen1 (p : List (List S85)) (sr sl row : List Int) (hsr : (sr.length : Int) = readsP p) (hsr2 : sr.length ≤ 1048576) (hp : p.length ≤ 1000) (hr : row.length ≤ 1000) (hin : ∀ x ∈ row, 0 ≤ x ∧ x < (p.length : Int)) : ∀ (m : Nat) (out : List Int), m ≤ row.length → out.length + 1048576 * m ≤ 10000000000 →
    Ev (fun k => spec_TurnSeen.l1 k row (preL p 0) ((row.length - m : Nat) : Int) sr sl out sl) (out ++ ((row.drop (row.length - m)).map (rd_L4 (partsR p sr 0))).flatten, sl, true)
  | 0, out, _, _ => by
    refine Ev.succ (Ev.now fun k => ?_)
    simp [spec_TurnSeen.l1]
  | m + 1, out, hm, ho => by
    have hlt : row.length - (m + 1) < row.length := by omega
    have hd : row.drop (row.length - (m + 1)) = row[row.length - (m + 1)] :: row.drop (row.length - m) := by
      rw [List.drop_eq_getElem_cons hlt, show row.length - (m + 1) + 1 = row.length - m by omega]
    have hx := hin _ (List.getElem_mem hlt)
    rw [hd]
    generalize hxx : row[row.length - (m + 1)] = x at *
    obtain ⟨j, rfl⟩ := Int.eq_ofNat_of_zero_le hx.1
    have hj : j < p.length := by omega
    have hm := pre_mono p 0 j hj
    have hpl := preL_length p 0
    have e0 : rd (preL p 0) (j : Int) = (preL p 0).getD j 0 := by unfold rd; rw [Int.toNat_natCast]
    have e1 : rd (preL p 0) ((j : Int) + 1) = (preL p 0).getD (j + 1) 0 := by unfold rd; rw [show (j : Int) + 1 = ((j + 1 : Nat) : Int) by omega, Int.toNat_natCast]
    have e2 : rd_L4 (partsR p sr 0) (j : Int) = cutI sr ((preL p 0).getD j 0) ((preL p 0).getD (j + 1) 0) := by unfold rd_L4; rw [Int.toNat_natCast]; exact parts_pre p sr 0 j hj
    have hcl := cutI_le sr ((preL p 0).getD j 0) ((preL p 0).getD (j + 1) 0)
    have hrd : rd row ((row.length - (m + 1) : Nat) : Int) = (j : Int) := by rw [rd_get hlt]; exact hxx
    refine Ev.succ ?_
    simp only [spec_TurnSeen.l1, hrd]
    rw [w64' (x := (j : Int) + 1) (by omega) (by omega), w64' (by omega) (by omega), show ((row.length - (m + 1) : Nat) : Int) + 1 = ((row.length - m : Nat) : Int) by omega, e0, e1]
    generalize hA : (preL p 0).getD j 0 = A at *
    generalize hB : (preL p 0).getD (j + 1) 0 = B at *
    have hcut : ((sr.take B.toNat).drop A.toNat) = cutI sr A B := rfl
    simp only [hcut, if_pos (show ((row.length - (m + 1) : Nat) : Int) < (row.length : Int) by omega), if_pos (show (0 : Int) ≤ ((row.length - (m + 1) : Nat) : Int) by omega), if_pos (show (0 : Int) ≤ (j : Int) by omega), if_pos (show (j : Int) < ((preL p 0).length : Int) by omega), if_pos (show (0 : Int) ≤ (j : Int) + 1 by omega), if_pos (show (j : Int) + 1 < ((preL p 0).length : Int) by omega), if_pos (show 0 ≤ A by omega), if_pos (show A ≤ B by omega), if_pos (show B ≤ (sr.length : Int) by omega), if_pos (show out.length + (cutI sr A B).length < 17592186044416 by omega)]
    exact (sSeen1 p sr sl row hsr hsr2 hp hr hin m _ (by omega) (by simp; omega)).of (by simp [e2])
theorem sSeen0 (row sr sl : List Int) (hsl : sl.length ≤ 1000) (p : List (List S85)) (hp : Short p) (ho : ∀ t ∈ p, okP [t] = true) (hsr : (sr.length : Int) = readsP p) (hsr2 : sr.length ≤ 1048576) (R : List Int × List Int × Bool)
    (hR : Ev (fun k => spec_TurnSeen.l1 k row (preL p 0) 0 sr sl [] sl) R) : ∀ (b a : List (List S85)), p = a ++ b →
    Ev (fun k => spec_TurnSeen.l0 k row (preL a 0) (a.length : Int) p sr sl) R
  | [], a, hab => by
    refine Ev.succ ?_
    have hl : p = a := by rw [hab]; simp
    subst hl
    simp only [spec_TurnSeen.l0, Int.lt_irrefl, if_false, Option.bind_some, List.length_nil, Nat.zero_add, List.nil_append, if_pos (show sl.length < 17592186044416 by omega)]
    exact hR
  | t :: b, a, hab => by
    have hlt : a.length < p.length := by rw [hab]; simp
    have ht : t.length ≤ 1048576 := hp.2 t (by rw [hab]; simp)
    have hp1 := hp.1
    have e1 := readsP_pos a
    have e2 := readsP_pos b
    have e3 := readsI_le t
    have e4 : readsP p = readsP a + (readsI t + readsP b) := by rw [hab, readsP_app']; simp [readsP]
    have hpl := preL_length a 0
    have hg : ((p.take ((a.length : Int) + 1).toNat).drop ((a.length : Int)).toNat) = [t] := by
      rw [show ((a.length : Int) + 1).toNat = a.length + 1 by omega, Int.toNat_natCast, hab, List.take_append]
      simp
    have hr := sProgReads [t] ⟨by simp, fun u hu => by simp at hu; subst hu; exact ht⟩
    rw [if_pos (ho t (by rw [hab]; simp))] at hr
    have hrd : rd (preL a 0) (a.length : Int) = readsP a := by
      unfold rd
      rw [Int.toNat_natCast, preL_last]
      omega
    refine Ev.succ ?_
    simp only [spec_TurnSeen.l0]
    rw [w64' (x := (a.length : Int) + 1) (by omega) (by omega), hg, hrd]
    simp only [if_pos (show (a.length : Int) < (p.length : Int) by omega), if_pos (show (0 : Int) ≤ (a.length : Int) by omega), if_pos (show (a.length : Int) < ((preL a 0).length : Int) by omega), if_pos (show (a.length : Int) ≤ (a.length : Int) + 1 by omega), if_pos (show (a.length : Int) + 1 ≤ (p.length : Int) by omega)]
    refine Ev.bind hr ?_
    simp only [if_pos (show (preL a 0).length < 17592186044416 by omega), readsP, Int.add_zero]
    rw [w64' (by omega) (by omega)]
    have ih := sSeen0 row sr sl hsl p hp ho hsr hsr2 R hR b (a ++ [t]) (by rw [hab]; simp)
    rw [preL_snoc, Int.zero_add] at ih
    simpa using ih
theorem sSeenTurn (p : List (List S85)) (hp : Mid p) (sr sl row : List Int) (h4 : sr.length ≤ 1048576) (h5 : sl.length ≤ 1048576) (hr : row.length ≤ 1048576) : Ev (fun k => spec_TurnSeen.f k p sr sl row) (seenT p sr sl row) := by
  unfold spec_TurnSeen.f seenT
  refine Ev.bind (sSeenOk p hp sr sl h4 h5) ?_
  cases ho : okS p sr sl
  · simp only [Bool.false_eq_true, if_false, false_and]
    refine Ev.succ ?_
    simp only [spec_TurnSeen.j0, if_true]
    exact Ev.const
  obtain ⟨o1, o2, o3⟩ := okS_parts ho
  have h3 := okP_len o1
  have hs := hp.short h3
  simp only [if_true, true_and]
  refine Ev.bind (sRow row hr p.length (by omega)) ?_
  cases hb : rowB row p.length
  · simp only [Bool.not_false, Bool.false_eq_true, if_false]
    refine Ev.succ ?_
    simp only [spec_TurnSeen.j0, if_true]
    exact Ev.const
  · simp only [Bool.not_true, if_true]
    refine Ev.succ ?_
    simp only [spec_TurnSeen.j0, Bool.false_eq_true, if_false]
    have hrl := row_len hb
    have h1 := sSeen1 p sr sl row o2 h4 (by omega) (by omega) (row_in h3 hb) row.length [] (Nat.le_refl _) (by simp; omega)
    rw [Nat.sub_self] at h1
    exact sSeen0 row sr sl (by omega) p hs (okP_one o1) o2 h4 (turnR p sr row, sl, true) (by unfold turnR; simpa using h1) p [] rfl
end Go.Proofs.Ytefkbmhkhpekjaa.Pure

namespace Go.Proofs.Ytefkbmhkhpekjaa.Pure
open Go.RowKit Go.Proofs.Ytefkbmhkhpekjaa.PB Go.Proofs.YtefkbmhkhpekjaaW.PrintWords Go.Proofs.YtefkbmhkhpekjaaW.PrintLast
set_option linter.unusedVariables false

/-- The threads, turned. -/
def turnT (p : List (List S85)) (row : List Int) : List (List S85) := row.map (rd_L7 p)
theorem iTurnL (p : List (List S85)) (hp : Short p) (row : List Int) (hr : row.length ≤ 1000) (hin : ∀ x ∈ row, 0 ≤ x ∧ x < (p.length : Int)) : ∀ (m : Nat) (out : List (List S85)), m ≤ row.length → out.length + m ≤ 10000 →
    Ev (fun k => impl_TurnThreads.l0 k row (row.length : Int) ((row.length - m : Nat) : Int) p out) (out ++ turnT p (row.drop (row.length - m)), true)
  | 0, out, _, _ => by
    refine Ev.succ (Ev.now fun k => ?_)
    simp [impl_TurnThreads.l0, turnT]
  | m + 1, out, hm, ho => by
    have hlt : row.length - (m + 1) < row.length := by omega
    have hd : row.drop (row.length - (m + 1)) = row[row.length - (m + 1)] :: row.drop (row.length - m) := by
      rw [List.drop_eq_getElem_cons hlt, show row.length - (m + 1) + 1 = row.length - m by omega]
    have hx := hin _ (List.getElem_mem hlt)
    rw [hd]
    refine Ev.succ ?_
    have hs := hp.rd row[row.length - (m + 1)]
    simp only [impl_TurnThreads.l0, impl_Do_98.f, rd_get hlt, if_pos (show ((row.length - (m + 1) : Nat) : Int) < (row.length : Int) by omega), if_pos (show (0 : Int) ≤ ((row.length - (m + 1) : Nat) : Int) by omega), if_pos hx.1, if_pos hx.2, if_pos (show (rd_L7 p row[row.length - (m + 1)]).length < 1048577 by omega), Option.bind_some, if_pos (show out.length < 5864062014805 by omega)]
    rw [w64' (by omega) (by omega), show ((row.length - (m + 1) : Nat) : Int) + 1 = ((row.length - m : Nat) : Int) by omega]
    exact (iTurnL p hp row hr hin m (out ++ [rd_L7 p row[row.length - (m + 1)]]) (by omega) (by simp; omega)).of (by simp [turnT])
def turned (p : List (List S85)) (row : List Int) : List (List S85) × Bool := if okP p = true ∧ rowB row p.length = true then (turnT p row, true) else ([], false)
theorem iTurn0 (p : List (List S85)) (hp : Short p) (row : List Int) (hr : row.length ≤ 1048576) : Ev (fun k => impl_TurnThreads.f k p row) (turned p row) := by
  unfold impl_TurnThreads.f turned
  refine Ev.bind (iProg p hp) ?_
  by_cases h : okP p = true
  · simp only [if_pos h]
    refine Ev.bind (iRow row hr p.length (by have := hp.1; omega)) (Ev.succ ?_)
    by_cases hb : rowB row p.length = true
    · rw [hb, if_pos ⟨h, rfl⟩]
      simp only [impl_TurnThreads.j0, Bool.not_true, Bool.false_eq_true, if_false]
      have := iTurnL p hp row (by have := row_len hb; have := hp.1; omega) (row_in (okP_len h) hb) row.length [] (Nat.le_refl _) (by have := row_len hb; have := hp.1; simp; omega)
      rw [Nat.sub_self] at this
      exact this
    · rw [show rowB row p.length = false by simpa using hb, if_neg (by simp)]
      simp only [impl_TurnThreads.j0, Bool.not_false, if_true]
      exact Ev.const
  · simp only [if_neg h]
    rw [if_neg (fun e => h e.1)]
    refine Ev.succ ?_
    simp only [impl_TurnThreads.j0, if_true]
    exact Ev.const
end Go.Proofs.Ytefkbmhkhpekjaa.Pure

namespace Go.Proofs.Ytefkbmhkhpekjaa.PB
open Go.RowKit Go.Proofs.YtefkbmhkhpekjaaW.PrintWords Go.Proofs.YtefkbmhkhpekjaaW.PrintLast Go.Proofs.YtefkbmhkhpekjaaW.PrintMore
attribute [local go_sem] max2_int min2_int max_two min_two max_three min_three max_four min_four   -- for this text's walks alone
open Go.Proofs.YtefkbmhkhpekjaaMine
set_option linter.unusedVariables false
set_option linter.unusedSimpArgs false

/-! ### spec_TurnThreads: function 49 -/
end Go.Proofs.Ytefkbmhkhpekjaa.PB

namespace Go.Proofs.Ytefkbmhkhpekjaa.Pure
open Go.RowKit Go.Proofs.Ytefkbmhkhpekjaa.PB Go.Proofs.YtefkbmhkhpekjaaW.PrintWords Go.Proofs.YtefkbmhkhpekjaaW.PrintLast
set_option linter.unusedVariables false

theorem turn_facts (p : List (List S85)) (hp : Short p) (h1 : 1 ≤ p.length) (h3 : p.length ≤ 3) (row : List Int) (h : rowB row p.length = true) :
    okP (turnT p row) = okP p ∧ Short (turnT p row) ∧ (turnT p row).length = p.length ∧ rowB (backR row) p.length = true ∧ (backR row).length ≤ 3 ∧ turnT (turnT p row) (backR row) = p ∧ readsP (turnT p row) = readsP p := by
  have sh : ∀ q : List (List S85), q.length ≤ 3 → (∀ t ∈ q, t ∈ p) → Short q := fun q hq hm => ⟨by omega, fun t ht => hp.2 t (hm t ht)⟩
  match p, h1, h3, h, sh with
  | [t], _, _, h, sh =>
    rcases row_cases (by simp) (by simp) h with ⟨_, rfl⟩ | ⟨hn, _⟩ | ⟨hn, _⟩
    · exact ⟨rfl, sh _ (by simp [turnT]) (by simp [turnT, rd_L7]), rfl, rfl, by simp [backR], rfl, rfl⟩
    · simp at hn
    · simp at hn
  | [t, u], _, _, h, sh =>
    rcases row_cases (by simp) (by simp) h with ⟨hn, _⟩ | ⟨_, rfl | rfl⟩ | ⟨hn, _⟩
    · simp at hn
    · exact ⟨rfl, sh _ (by simp [turnT]) (by simp [turnT, rd_L7]), rfl, rfl, by simp [backR], rfl, rfl⟩
    · refine ⟨?_, sh _ (by simp [turnT]) (by simp [turnT, rd_L7]), rfl, rfl, by simp [backR], rfl, ?_⟩
      · show okP [u, t] = okP [t, u]
        simp only [okP, okL, List.length_cons, List.length_nil, Int.zero_add]
        rw [Int.add_comm (u.length : Int), Int.add_comm (usesI u)]
        cases threadB t <;> cases threadB u <;> simp
      · show readsP [u, t] = readsP [t, u]
        simp only [readsP]; omega
    · simp at hn
  | [t, u, v], _, _, h, sh =>
    have ok : ∀ (x y z : List S85), ((x.length : Int) + y.length + z.length = (t.length : Int) + u.length + v.length) → usesI x + usesI y + usesI z = usesI t + usesI u + usesI v → (threadB x && (threadB y && threadB z)) = (threadB t && (threadB u && threadB v)) → okP [x, y, z] = okP [t, u, v] := by
      intro x y z e1 e2 e3
      simp only [okP, okL, List.length_cons, List.length_nil, Int.zero_add, e1, e2]
      rw [← Bool.and_assoc (threadB y), ← Bool.and_assoc (threadB x), ← Bool.and_assoc (threadB u), ← Bool.and_assoc (threadB t), e3]
    rcases row_cases (by simp) (by simp) h with ⟨hn, _⟩ | ⟨hn, _⟩ | ⟨_, rfl | rfl | rfl | rfl | rfl | rfl⟩
    · simp at hn
    · simp at hn
    · exact ⟨rfl, sh _ (by simp [turnT]) (by simp [turnT, rd_L7]), rfl, rfl, by simp [backR], rfl, rfl⟩
    · exact ⟨ok t v u (by omega) (by omega) (by cases threadB t <;> cases threadB u <;> cases threadB v <;> rfl), sh _ (by simp [turnT]) (by simp [turnT, rd_L7]), rfl, rfl, by simp [backR], rfl, by show readsP [t, v, u] = _; simp only [readsP]; omega⟩
    · exact ⟨ok u t v (by omega) (by omega) (by cases threadB t <;> cases threadB u <;> cases threadB v <;> rfl), sh _ (by simp [turnT]) (by simp [turnT, rd_L7]), rfl, rfl, by simp [backR], rfl, by show readsP [u, t, v] = _; simp only [readsP]; omega⟩
    · exact ⟨ok u v t (by omega) (by omega) (by cases threadB t <;> cases threadB u <;> cases threadB v <;> rfl), sh _ (by simp [turnT]) (by simp [turnT, rd_L7]), rfl, rfl, by simp [backR], rfl, by show readsP [u, v, t] = _; simp only [readsP]; omega⟩
    · exact ⟨ok v t u (by omega) (by omega) (by cases threadB t <;> cases threadB u <;> cases threadB v <;> rfl), sh _ (by simp [turnT]) (by simp [turnT, rd_L7]), rfl, rfl, by simp [backR], rfl, by show readsP [v, t, u] = _; simp only [readsP]; omega⟩
    · exact ⟨ok v u t (by omega) (by omega) (by cases threadB t <;> cases threadB u <;> cases threadB v <;> rfl), sh _ (by simp [turnT]) (by simp [turnT, rd_L7]), rfl, rfl, by simp [backR], rfl, by show readsP [v, u, t] = _; simp only [readsP]; omega⟩
  | a :: b :: c :: d :: l, _, h3, _, _ => exact absurd h3 (by simp)
end Go.Proofs.Ytefkbmhkhpekjaa.Pure

namespace Go.Proofs.Ytefkbmhkhpekjaa.Pure
open Go.RowKit Go.Proofs.Ytefkbmhkhpekjaa.PB Go.Proofs.YtefkbmhkhpekjaaW.PrintWords Go.Proofs.YtefkbmhkhpekjaaW.PrintLast
set_option linter.unusedVariables false

/-- Each thread has its reads. -/
def Fit : List (List S85) → List (List Int) → Prop
  | [], [] => True
  | t :: p, x :: xs => (x.length : Int) = readsI t ∧ Fit p xs
  | _, _ => False
theorem fit_parts : ∀ (p : List (List S85)) (xs : List (List Int)) (pre : List Int), Fit p xs → partsR p (pre ++ xs.flatten) (pre.length : Int) = xs
  | [], [], _, _ => rfl
  | t :: p, x :: xs, pre, h => by
    have h1 := h.1
    have e : ((pre.length : Nat) : Int) + readsI t = ((pre ++ x).length : Nat) := by rw [List.length_append]; omega
    have ih := fit_parts p xs (pre ++ x) h.2
    unfold partsR
    rw [e, List.flatten_cons, ← List.append_assoc, ih]
    congr 1
    unfold cutI
    rw [Int.toNat_natCast, Int.toNat_natCast, List.take_left, List.drop_left]
  | [], _ :: _, _, h => h.elim
  | _ :: _, [], _, h => h.elim
theorem parts_fit : ∀ (p : List (List S85)) (sr : List Int) (s : Nat), ((sr.length : Nat) : Int) = (s : Int) + readsP p → Fit p (partsR p sr (s : Int)) ∧ (partsR p sr (s : Int)).flatten = sr.drop s
  | [], sr, s, h => by
    simp only [readsP, Int.add_zero] at h
    refine ⟨trivial, ?_⟩
    rw [show sr.drop s = [] from List.drop_eq_nil_of_le (by omega)]
    rfl
  | t :: p, sr, s, h => by
    have h0 := (readsI_le t).1
    have hp := readsP_pos p
    simp only [readsP] at h
    obtain ⟨n, hn⟩ := Int.eq_ofNat_of_zero_le h0
    have ih := parts_fit p sr (s + n) (by omega)
    have e : (s : Int) + readsI t = ((s + n : Nat) : Int) := by omega
    unfold partsR
    rw [e]
    have hc : cutI sr (s : Int) ((s + n : Nat) : Int) = (sr.drop s).take n := by
      unfold cutI
      rw [Int.toNat_natCast, Int.toNat_natCast, List.drop_take, Nat.add_sub_cancel_left]
    refine ⟨⟨?_, ih.1⟩, ?_⟩
    · rw [hc, hn, List.length_take, List.length_drop]
      omega
    · rw [List.flatten_cons, ih.2, hc, ← List.drop_drop, List.take_append_drop]
theorem fit_len : ∀ (p : List (List S85)) (xs : List (List Int)), Fit p xs → ((xs.flatten.length : Nat) : Int) = readsP p
  | [], [], _ => rfl
  | t :: p, x :: xs, h => by
    have h1 := h.1
    have ih := fit_len p xs h.2
    simp only [readsP, List.flatten_cons, List.length_append]
    omega
  | [], _ :: _, h => h.elim
  | _ :: _, [], h => h.elim
/-- What is turned fits, and turned back it is what it was. -/
theorem fit_turn (p : List (List S85)) (xs : List (List Int)) (h : Fit p xs) (h1 : 1 ≤ p.length) (h3 : p.length ≤ 3) (row : List Int) (hb : rowB row p.length = true) :
    Fit (turnT p row) (row.map (rd_L4 xs)) ∧ ((backR row).map (rd_L4 (row.map (rd_L4 xs)))) = xs ∧ ∀ y, y ∈ (row.map (rd_L4 xs)).flatten → y ∈ xs.flatten := by
  match p, xs, h with
  | [t], [x], h =>
    rcases row_cases (by simp) (by simp) hb with ⟨_, rfl⟩ | ⟨hn, _⟩ | ⟨hn, _⟩
    · exact ⟨h, rfl, fun y hy => hy⟩
    · simp at hn
    · simp at hn
  | [t, u], [x, y], h =>
    rcases row_cases (by simp) (by simp) hb with ⟨hn, _⟩ | ⟨_, rfl | rfl⟩ | ⟨hn, _⟩
    · simp at hn
    · exact ⟨h, rfl, fun y hy => hy⟩
    · exact ⟨⟨h.2.1, h.1, trivial⟩, rfl, fun z hz => by simp [rd_L4] at hz ⊢; exact hz.symm⟩
    · simp at hn
  | [t, u, v], [x, y, z], h =>
    rcases row_cases (by simp) (by simp) hb with ⟨hn, _⟩ | ⟨hn, _⟩ | ⟨_, rfl | rfl | rfl | rfl | rfl | rfl⟩
    · simp at hn
    · simp at hn
    · exact ⟨h, rfl, fun y hy => hy⟩
    · exact ⟨⟨h.1, h.2.2.1, h.2.1, trivial⟩, rfl, fun a ha => by simp [rd_L4] at ha ⊢; rcases ha with ha | ha | ha <;> simp [ha]⟩
    · exact ⟨⟨h.2.1, h.1, h.2.2.1, trivial⟩, rfl, fun a ha => by simp [rd_L4] at ha ⊢; rcases ha with ha | ha | ha <;> simp [ha]⟩
    · exact ⟨⟨h.2.1, h.2.2.1, h.1, trivial⟩, rfl, fun a ha => by simp [rd_L4] at ha ⊢; rcases ha with ha | ha | ha <;> simp [ha]⟩
    · exact ⟨⟨h.2.2.1, h.1, h.2.1, trivial⟩, rfl, fun a ha => by simp [rd_L4] at ha ⊢; rcases ha with ha | ha | ha <;> simp [ha]⟩
    · exact ⟨⟨h.2.2.1, h.2.1, h.1, trivial⟩, rfl, fun a ha => by simp [rd_L4] at ha ⊢; rcases ha with ha | ha | ha <;> simp [ha]⟩
  | a :: b :: c :: d :: l, _, _ => exact absurd h3 (by simp)
  | [], _, _ => exact absurd h1 (by simp)
  | [_], [], h => exact h.elim
  | [_], _ :: _ :: _, h => exact h.2.elim
  | [_, _], [], h => exact h.elim
  | [_, _], [_], h => exact h.2.elim
  | [_, _], _ :: _ :: _ :: _, h => exact h.2.2.elim
  | [_, _, _], [], h => exact h.elim
  | [_, _, _], [_], h => exact h.2.elim
  | [_, _, _], [_, _], h => exact h.2.2.elim
  | [_, _, _], _ :: _ :: _ :: _ :: _, h => exact h.2.2.2.elim
theorem seen_back (p : List (List S85)) (hp : Short p) (h1 : 1 ≤ p.length) (h3 : p.length ≤ 3) (sr sl row : List Int) (ho : okS p sr sl = true) (hb : rowB row p.length = true) :
    okS (turnT p row) (turnR p sr row) sl = true ∧ turnR (turnT p row) (turnR p sr row) (backR row) = sr ∧ (turnR p sr row).length = sr.length := by
  obtain ⟨f1, f2, f3, f4, f5, f6, f7⟩ := turn_facts p hp h1 h3 row hb
  obtain ⟨o1, o2, o3⟩ := okS_parts ho
  obtain ⟨g1, g2⟩ := parts_fit p sr 0 (by omega)
  rw [List.drop_zero] at g2
  obtain ⟨k1, k2, k3⟩ := fit_turn p _ g1 h1 h3 row hb
  have e := fit_parts _ _ [] k1
  rw [List.nil_append] at e
  have hl := fit_len _ _ k1
  have hl2 : (turnR p sr row).length = sr.length := by
    unfold turnR
    have : ((turnT p row |> readsP) : Int) = readsP p := f7
    have hc : ((0 : Nat) : Int) = (0 : Int) := rfl
    rw [hc] at hl
    simp only [this] at hl
    omega
  refine ⟨?_, ?_, hl2⟩
  · unfold okS at ho ⊢
    simp only [Bool.and_eq_true, decide_eq_true_eq, List.all_eq_true] at ho ⊢
    obtain ⟨⟨⟨⟨a1, a2⟩, a3⟩, a4⟩, a5⟩ := ho
    refine ⟨⟨⟨⟨f1.trans a1, ?_⟩, a3⟩, ?_⟩, a5⟩
    · rw [hl2, f7]; exact a2
    · intro y hy
      refine a4 y ?_
      rw [← g2]
      exact k3 y hy
  · show ((backR row).map (rd_L4 (partsR (turnT p row) (turnR p sr row) 0))).flatten = sr
    have e' : partsR (turnT p row) (turnR p sr row) 0 = row.map (rd_L4 (partsR p sr 0)) := e
    rw [e']
    exact (congrArg List.flatten k2).trans g2
theorem lpIntsL (l : List Int) (hl : l.length ≤ 1048576) : ∀ m : Nat, m ≤ l.length → Ev (fun k => laws_lpInts.l0 k l l ((l.length - m : Nat) : Int)) true
  | 0, _ => by
    refine Ev.succ (Ev.now fun k => ?_)
    simp only [laws_lpInts.l0, Nat.sub_zero, Int.lt_irrefl, if_false]
  | m + 1, hm => by
    refine Ev.succ ?_
    simp only [laws_lpInts.l0, if_pos (show ((l.length - (m + 1) : Nat) : Int) < (l.length : Int) by omega), if_pos (show (0 : Int) ≤ ((l.length - (m + 1) : Nat) : Int) by omega), if_true]
    rw [w64' (by omega) (by omega), show ((l.length - (m + 1) : Nat) : Int) + 1 = ((l.length - m : Nat) : Int) by omega]
    exact lpIntsL l hl m (by omega)
theorem lpInts (l : List Int) (hl : l.length ≤ 1048576) : Ev (fun k => laws_lpInts.f k l l) true := by
  unfold laws_lpInts.f
  simp only [if_true]
  have := lpIntsL l hl l.length (Nat.le_refl _)
  rw [Nat.sub_self] at this
  exact this
theorem lpSame (a b : List Int) (ha : a.length ≤ 1048576) (hb : b.length ≤ 1048576) : Ev (fun k => laws_lpSame.f k a b a b) true := by
  unfold laws_lpSame.f
  refine Ev.bind (lpInts a ha) ?_
  simp only [if_true]
  exact Ev.bind (lpInts b hb) Ev.const
end Go.Proofs.Ytefkbmhkhpekjaa.Pure

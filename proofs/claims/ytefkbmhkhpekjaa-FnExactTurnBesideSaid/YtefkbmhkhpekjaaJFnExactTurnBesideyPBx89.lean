-- Written by this session's wip/myprint.py (the kit's print.py, with hand-written chunks). Lean checks it.
import Derived.Test.YtefkbmhkhpekjaaPBx0
import Derived.Test.YtefkbmhkhpekjaaJFnExactTurnBesidex1
import Derived.Test.YtefkbmhkhpekjaaJoinRows
namespace Go.Proofs.Ytefkbmhkhpekjaa.PB
open Go.RowKit Go.Proofs.YtefkbmhkhpekjaaW.PrintWords Go.Proofs.YtefkbmhkhpekjaaW.PrintLast Go.Proofs.YtefkbmhkhpekjaaW.PrintMore
attribute [local go_sem] max2_int min2_int max_two min_two max_three min_three max_four min_four   -- for this text's walks alone
open Go.Proofs.YtefkbmhkhpekjaaMine
set_option linter.unusedVariables false
set_option linter.unusedSimpArgs false

/-! ### impl_Do_89: function 89 -/
set_option maxRecDepth 100000 in
set_option maxHeartbeats 8000000 in
/-- Two rows of rows, one behind the other: the inner rows are handed on. -/
theorem impl_Do_89.calls (gB : Nat) (vp vq : Value) (p q : List (List S85)) (P1 P2 : Nat → Prop) (base : Nat) (w : World) (hbase : base ≤ w.heap.size) (hb : w.heap[gB]? = some (.cells #[vp, vq] 33 (0, 0)))
  (h1 : Kd.S (Kd.slice 85 k85) 82 w base P1 vp p) (h2 : Kd.S (Kd.slice 85 k85) 82 w base P2 vq q) (hd : ∀ k, P1 k → ¬ P2 k) (hl1 : p.length ≤ 2097152) (hl2 : q.length ≤ 2097152) :
  Calls Try.prog 89 #[.slice (some ⟨gB, 0, none⟩) 2 2] w fun e w' => ∃ v : Value, e = .returned v ∧ Kd.S (Kd.slice 85 k85) 82 w' base (fun k => P1 k ∨ P2 k ∨ w.heap.size ≤ k) v (p ++ q) ∧ Below w.heap.size w w' := by
 obtain ⟨Ap, cp, rfl⟩ := Kd.S_slice h1
 obtain ⟨Aq, cq, rfl⟩ := Kd.S_slice h2
 have HB := am_ hb
 have H1 := am_ (Kd.S_mono (ok' := fun k => P1 k ∧ k < w.heap.size) (Kd.S_bound h1) (fun k hk => ⟨hk.1, hk.2.2.1⟩))
 have H2 := am_ (Kd.S_mono (ok' := fun k => P2 k ∧ k < w.heap.size) (Kd.S_bound h2) (fun k hk => ⟨hk.1, hk.2.2.1⟩))
 have HD := am_ hd
 clear hb h1 h2 hd
 go_enter Try.func89, Try.ntmps89
 go_wp2_with fail
 go_loopg [3, 11] 2 (fun kq v3 v11 w' => ∃ (i s : Int), v11 = .int .i64 i ∧ v3 = .int .i64 s ∧ w = w' ∧ (i = 0 ∧ s = 0 ∧ kq = 2 ∨ i = 1 ∧ s = (p.length : Int) ∧ kq = 1 ∨ i = 2 ∧ s = (p.length : Int) + (q.length : Int) ∧ kq = 0))
 case atStart => exact ⟨0, 0, rfl, rfl, rfl, .inl ⟨rfl, rfl, rfl⟩⟩
 case round =>
  obtain ⟨i, s, rfl, rfl, rfl, hc⟩ := hrel
  rcases hc with ⟨rfl, rfl, rfl⟩ | ⟨rfl, rfl, rfl⟩ | ⟨rfl, rfl, rfl⟩
  ·have hc0 : w.cell? ⟨gB, 0, none⟩ = some (.slice Ap p.length cp) := (blk_cell HB.out 0).trans rfl
   have hx : wrap64 (0 + (p.length : Int)) = (p.length : Int) := by unfold wrap64; omega
   have hz : decide ((p.length : Int) < 0) = false := decide_eq_false (by omega)
   go_wp2_with fail
   go_roundg 1
   case measure => omega
   case rel => exact ⟨1, (p.length : Int), rfl, by first | rfl | rw [hx], rfl, .inr (.inl ⟨rfl, rfl, rfl⟩)⟩
  ·have hc0 : w.cell? ⟨gB, 1, none⟩ = some (.slice Aq q.length cq) := (blk_cell HB.out 1).trans rfl
   have hx : wrap64 ((p.length : Int) + (q.length : Int)) = (p.length : Int) + (q.length : Int) := by unfold wrap64; omega
   have hz : decide ((p.length : Int) + (q.length : Int) < 0) = false := decide_eq_false (by omega)
   go_wp2_with fail
   go_roundg 0
   case measure => omega
   case rel => exact ⟨2, (p.length : Int) + (q.length : Int), rfl, by first | rfl | rw [hx], rfl, .inr (.inr ⟨rfl, rfl, rfl⟩)⟩
  ·go_wp2_with (go_at_call 122; refine park ?_)
   refine ⟨?_⟩
   refine (impl_Do_122.calls ((p.length : Int) + (q.length : Int)) base _ (by omega) (by omega) hbase).mono ?_
   rintro e w1 ⟨v, rfl, hS, hb⟩
   have HS := am_ hS
   have HBW := am_ hb
   clear hS hb
   go_wp2_with fail
   go_loopg [6, 27] 2 (fun kq v6 v27 w' => ∃ (i : Int) (u : Value), v27 = .int .i64 i ∧ u = v6 ∧ Aside0 (Below w.heap.size w w') ∧ Aside0 (∀ k, u.ownBlock = some k → w.heap.size ≤ k) ∧ (i = 0 ∧ kq = 2 ∧ Aside0 (Kd.S (Kd.slice 85 k85) 82 w' base (fun k => w.heap.size ≤ k) u []) ∨ i = 1 ∧ kq = 1 ∧ Aside0 (Kd.S (Kd.slice 85 k85) 82 w' base (fun k => P1 k ∨ w.heap.size ≤ k) u p) ∨ i = 2 ∧ kq = 0 ∧ Aside0 (Kd.S (Kd.slice 85 k85) 82 w' base (fun k => P1 k ∨ P2 k ∨ w.heap.size ≤ k) u (p ++ q))))
   case atStart => exact ⟨0, v, rfl, rfl, HBW, ⟨HS.out.choose_spec.1⟩, .inl ⟨rfl, rfl, HS⟩⟩
   case round =>
    obtain ⟨i, u, rfl, rfl, HBr, HOB, hc⟩ := hrel
    rcases hc with ⟨rfl, rfl, HS⟩ | ⟨rfl, rfl, HS⟩ | ⟨rfl, rfl, HS⟩
    ·have hc0 : wr.cell? ⟨gB, 0, none⟩ = some (.slice Ap p.length cp) := (blk_cell (blk_below HB.out HBr.out) 0).trans rfl
     go_wp2_with (at_builtin; refine park ?_)
     refine ⟨?_⟩
     refine S_append_rows (Kd.slice 85 k85) (w0 := wr) base rfl (.tmp 31) (.tmp 32) 33 82 (.slice none 0 0) 24 rfl Try.underlying33 info82 rfl (by decide) (by omega) u [] p Ap p.length cp (fun k => w.heap.size ≤ k) (fun k => P1 k ∧ k < w.heap.size) rfl rfl HS.out (Kd.S_below H1.out HBr.out) (fun k h1 h2 => by omega) (Below.refl _ _) (Nat.le_trans hbase HBr.out.size) (by simp; omega) ?_
     intro v1 w2 hS hb hg hat
     have hS1 := am_ (Kd.S_mono (ok' := (fun k => P1 k ∨ w.heap.size ≤ k)) hS (fun k hk => by rcases hk with hk | hk | hk; exact .inr hk; exact .inl hk.1; exact .inr (Nat.le_trans HBr.out.size hk)))
     have hB1 := am_ (HBr.out.grown hg HBr.out.size (fun k hk => HOB.out k hk))
     have hO1 := am_ (show ∀ k, v1.ownBlock = some k → w.heap.size ≤ k from fun k hk => by
      rcases hat with hat | ⟨b, hb1, hb2⟩
      ·exact HOB.out k (hat ▸ hk)
      ·rw [hb1] at hk; injection hk with hk; have := HBr.out.size; omega)
     clear hS hb hg hat hc0
     go_wp2_with fail
     go_roundg 1
     case measure => omega
     case rel => exact ⟨1, v1, rfl, rfl, hB1, hO1, .inr (.inl ⟨rfl, rfl, hS1⟩)⟩
    ·have hc0 : wr.cell? ⟨gB, 1, none⟩ = some (.slice Aq q.length cq) := (blk_cell (blk_below HB.out HBr.out) 1).trans rfl
     go_wp2_with (at_builtin; refine park ?_)
     refine ⟨?_⟩
     have HS1 := Kd.S_mono (ok' := fun k => (P1 k ∧ k < w.heap.size) ∨ w.heap.size ≤ k) HS.out (fun k hk => by rcases hk with hk | hk; rcases Nat.lt_or_ge k w.heap.size with h | h; exact .inl ⟨hk, h⟩; exact .inr h; exact .inr hk)
     refine S_append_rows (Kd.slice 85 k85) (w0 := wr) base rfl (.tmp 31) (.tmp 32) 33 82 (.slice none 0 0) 24 rfl Try.underlying33 info82 rfl (by decide) (by omega) u p q Aq q.length cq _ (fun k => P2 k ∧ k < w.heap.size) rfl rfl HS1 (Kd.S_below H2.out HBr.out) (fun k h1 h2 => by rcases h1 with h1 | h1; exact HD.out k h1.1 h2.1; omega) (Below.refl _ _) (Nat.le_trans hbase HBr.out.size) (by omega) ?_
     intro v1 w2 hS hb hg hat
     have hS1 := am_ (Kd.S_mono (ok' := (fun k => P1 k ∨ P2 k ∨ w.heap.size ≤ k)) hS (fun k hk => by rcases hk with (hk | hk) | hk | hk; exact .inl hk.1; exact .inr (.inr hk); exact .inr (.inl hk.1); exact .inr (.inr (Nat.le_trans HBr.out.size hk))))
     have hB1 := am_ (HBr.out.grown hg HBr.out.size (fun k hk => HOB.out k hk))
     have hO1 := am_ (show ∀ k, v1.ownBlock = some k → w.heap.size ≤ k from fun k hk => by
      rcases hat with hat | ⟨b, hb1, hb2⟩
      ·exact HOB.out k (hat ▸ hk)
      ·rw [hb1] at hk; injection hk with hk; have := HBr.out.size; omega)
     clear hS hb hg hat hc0
     go_wp2_with fail
     go_roundg 0
     case measure => omega
     case rel => exact ⟨2, v1, rfl, rfl, hB1, hO1, .inr (.inr ⟨rfl, rfl, hS1⟩)⟩
    ·go_wp2_with fail
     go_ret
     exact ⟨_, rfl, HS.out, HBr.out⟩


end Go.Proofs.Ytefkbmhkhpekjaa.PB

-- Written by this session's wip/myprint.py (the kit's print.py, with hand-written chunks). Lean checks it.
import Derived.Test.YtefkbmhkhpekjaaPBx0
import Derived.Test.YtefkbmhkhpekjaaJFnTurnSeenx6
import Derived.Test.YtefkbmhkhpekjaaJFnTurnSeenx4
namespace Go.Proofs.Ytefkbmhkhpekjaa.PB
open Go.RowKit Go.Proofs.YtefkbmhkhpekjaaW.PrintWords Go.Proofs.YtefkbmhkhpekjaaW.PrintLast Go.Proofs.YtefkbmhkhpekjaaW.PrintMore
attribute [local go_sem] max2_int min2_int max_two min_two max_three min_three max_four min_four   -- for this text's walks alone
open Go.Proofs.YtefkbmhkhpekjaaMine
set_option linter.unusedVariables false
set_option linter.unusedSimpArgs false

/-! ### spec_l71Prog: function 123 -/
def spec_l71Prog.T9 : Bool × List (List Nat × List Nat) := (true, [([], []), ([0], [0]), ([], []), ([2], [2]), ([3], [3]), ([4], [4]), ([], []), ([6], [6]), ([7], [7]), ([5, 8, 7], [5, 8]), ([1, 0, 1, 2, 3, 4, 5, 6, 7, 8, 9], [1]), ([10, 9, 9, 0, 1, 2, 3, 4, 5, 6, 7, 8, 9], [9, 10])])
def spec_l71Prog.B9 : List Nat := [0, 1, 0, 4, 12, 28, 0, 64, 192, 508, 1023, 2047]
theorem spec_l71Prog.tab9 : rtab .any (opsOf Try.f123 9) = spec_l71Prog.T9 := by kernel_rfl
theorem spec_l71Prog.bits9 : waitsOk spec_l71Prog.T9.2 spec_l71Prog.B9 = true := by kernel_rfl
def spec_l71Prog.T14 : Bool × List (List Nat × List Nat) := (true, [([], []), ([0], [0]), ([], []), ([], []), ([3], [3]), ([], []), ([5], [5]), ([4, 6], [4, 6]), ([], []), ([2, 7, 8, 6], [2, 7, 8]), ([9], [9]), ([1, 10, 9], [1, 10]), ([0, 1, 2, 3, 4, 5, 6, 7, 8, 9, 10, 11], []), ([12, 11, 11, 0, 1, 2, 3, 4, 5, 6, 7, 8, 9, 10, 11], [11, 12])])
def spec_l71Prog.B14 : List Nat := [0, 1, 0, 0, 8, 0, 32, 120, 0, 508, 1020, 2047, 4095, 8191]
theorem spec_l71Prog.tab14 : rtab .any (opsOf Try.f123 14) = spec_l71Prog.T14 := by kernel_rfl
theorem spec_l71Prog.bits14 : waitsOk spec_l71Prog.T14.2 spec_l71Prog.B14 = true := by kernel_rfl
theorem spec_l71Prog.H_keepB {α : Type} {d : Kd α} {e base g : Nat} {w w1 : World} {ok oki : Nat → Prop} {v : Value} {xs : List α} {i : Int} {c : List Value} (h : Kd.H d e w base ok v xs i oki c) (hk : KeepBut w w1 g none) (hg : g < base) : Kd.H d e w1 base ok v xs i oki c := by
  obtain ⟨ho, f, h⟩ := h
  exact ⟨ho, f, Kd.R_mono (Kd.R_step (Kd.R_bound h) (fun k hk' hlt => hk.2 k hlt (by have := hk'.2.1; omega) (by simp))) (fun k hk => hk.1)⟩
def spec_l71Prog.l1 : Nat → Int → Int → Int → List (List S85) → List Int → Int → Option (List (List S85) × Int)
  | 0, _, _, _, _, _, _ => none
  | k + 1, m, x, pl, p, s0, s => if x < m then (if m = 0 then none else (if p.length < 1000 then ((spec_l6Rd_pick.f k s0 s 2).bind fun a => (spec_l71Thread.f k s0 a.2 (wrap64 (wrap64 (Int.tdiv 6 m) + a.1)) pl).bind fun t => spec_l71Prog.l1 k m (wrap64 (x + 1)) pl (p ++ [t.1]) s0 t.2) else none)) else some (p, s)
def spec_l71Prog.body (k : Nat) (pl b : Int) (s0 : List Int) (s : Int) : Option (List (List S85) × Int) :=
  if b = 0 then (spec_l71Reader.f k s0 s 2).bind fun r => (spec_l71Waiter.f k s0 r.2 2).bind fun t => (spec_l6Rd_pick.f k s0 t.2 3).bind fun c => if c.1 = 0 then (if r.1.length < 1000 then ((spec_l71Do.f k s0 c.2 2).bind fun d => some ([r.1 ++ [(⟨d.1, d.2.1, d.2.2.1⟩ : S85)], t.1], d.2.2.2)) else none) else some ([r.1, t.1], c.2)
  else (spec_l6Rd_pick.f k s0 s 2).bind fun m => spec_l71Prog.l1 k (wrap64 (2 + m.1)) 0 pl [] s0 m.2
def spec_l71Prog.l0 : Nat → Int → List Int → Int → Option (List (List S85) × Int)
  | 0, _, _, _ => none
  | k + 1, i, s0, s => if i < 12 then ((spec_l6Rd_pick.f k s0 s 2).bind fun a => (spec_l6Rd_pick.f k s0 a.2 4).bind fun b => (spec_l71Prog.body k (wrap64 (1 + a.1)) b.1 s0 b.2).bind fun q => (spec_ProgOk.f k q.1).bind fun ok => if ok = true then ((spec_l71Steps.f k q.1).bind fun m => if m ≤ 8 then some q else spec_l71Prog.l0 k (wrap64 (i + 1)) s0 q.2) else spec_l71Prog.l0 k (wrap64 (i + 1)) s0 q.2)
    else some ([[(⟨1, 0, 1⟩ : S85)], [(⟨2, 0, 0⟩ : S85)]], s)
def spec_l71Prog.f (k : Nat) (s0_0 : List Int) (s0_1 : Int) : Option (List (List S85) × Int) := spec_l71Prog.l0 k 0 s0_0 s0_1
theorem keep_set_new {w W : World} {g : Nat} (h : KeepBut w W g none) {p : Addr} (hp : w.heap.size ≤ p.block) (u : Value) : KeepBut w (W.setCell p u) g none :=
  ⟨by simpa [World.setCell] using h.1, fun i hi hg hr => (Below.heap_setCell W p u i (by omega)).trans (h.2 i hi hg hr)⟩
set_option maxRecDepth 100000 in
set_option maxHeartbeats 8000000 in
theorem spec_l71Prog.calls (k : Nat) (g : Nat) (s0_0 : List Int) (s0_1 : Int) (r1 : List (List S85)) (r2 : Int) (w0 w : World) (hI : IsS116 w0 w g s0_0 s0_1) (hB : Below w0.heap.size w0 w) (h : spec_l71Prog.f k s0_0 s0_1 = some (r1, r2)) :
    Calls Try.prog 123 #[.pointer (some ⟨g, 0, none⟩)] w fun e w' => ∃ v0_ : Value, e = .returned (.agg #[v0_]) ∧ Kd.S (Kd.slice 85 k85) 82 w' w.heap.size (fun _ => True) v0_ r1 ∧ IsS116 w0 w' g s0_0 r2 ∧ Below w0.heap.size w0 w' ∧ KeepBut w w' g none := by
  have HG := am_ (show g < w.heap.size from blk_lt hI.choose_spec.choose_spec.1)
  have HWW := am_ hB.size
  have HI := am_ hI
  have HB := am_ hB
  have H := am_ (show spec_l71Prog.l0 k 0 s0_0 s0_1 = some (r1, r2) from h)
  clear hI hB h
  go_enter Try.func123, Try.ntmps123
  go_wp2_with fail
  have BR0 := am_ (heap_alloc_new w (Obj.cells #[Value.slice none 0 0] 35))
  go_loopg [3] k (fun kq v3 W => ∃ (i s : Int), v3 = .int .i64 i ∧ Aside0 (spec_l71Prog.l0 kq i s0_0 s = some (r1, r2)) ∧ Aside0 (kq ≤ k) ∧ Aside0 (IsS116 w0 W g s0_0 s) ∧ Aside0 (Below w0.heap.size w0 W) ∧ Aside0 (KeepBut w W g none) ∧ Aside0 (W.heap[w.heap.size]? = some (Obj.cells #[Value.slice none 0 0] 35)))
  case atStart => exact ⟨0, s0_1, rfl, H, ⟨Nat.le_refl _⟩, ⟨IsS116.alloc HI.out _⟩, ⟨below_alloc HB.out _⟩, ⟨keep_alloc (KeepBut.refl _ _ _) _⟩, BR0⟩
  case round =>
    obtain ⟨i, s, rfl, HA, HK, HIr, HBr, HKr, BRr⟩ := hrel
    clear HI HB H BR0
    cases gk with
    | zero => exact absurd HA.out (by simp [spec_l71Prog.l0])
    | succ k1 =>
      have HH := HA.out
      clear HA
      simp only [spec_l71Prog.l0] at HH
      by_cases hlt : i < 12
      · rw [if_pos hlt] at HH
        obtain ⟨⟨a, s1⟩, e1, HH⟩ := Option.bind_eq_some_iff.mp HH
        obtain ⟨⟨b, s2⟩, e2, HH⟩ := Option.bind_eq_some_iff.mp HH
        obtain ⟨⟨q, s3⟩, e3, HH⟩ := Option.bind_eq_some_iff.mp HH
        have E1 := am_ e1
        have E2 := am_ e2
        have E3 := am_ e3
        have HN := am_ HH
        clear e1 e2 e3 HH
        go_wp2_with (go_at_call 71; refine park ?_)
        refine ⟨?_⟩
        have HG1 := am_ (show w.heap.size < wr.heap.size from blk_lt BRr.out)
        have HIa := am_ (IsS116.alloc HIr.out (Obj.cells #[Value.slice none 0 0] 35))
        have HBa := am_ (below_alloc HBr.out (Obj.cells #[Value.slice none 0 0] 35))
        have HKa := am_ (keep_alloc HKr.out (Obj.cells #[Value.slice none 0 0] 35))
        have BRa := am_ (blk_alloc BRr.out (Obj.cells #[Value.slice none 0 0] 35))
        have BPa := am_ (heap_alloc_new wr (Obj.cells #[Value.slice none 0 0] 35))
        clear HIr HBr HKr BRr
        refine (spec_l6Rd_pick.calls k1 g s0_0 s 2 a s1 w0 _ HIa.out HBa.out E1.out).mono ?_
        rintro e W1 ⟨rfl, hi, hb, hk⟩
        have HI1 := am_ hi
        have HB1 := am_ hb
        have HK1 := am_ (KeepBut.trans HKa.out hk (.inl rfl))
        have BR1 := am_ (hk.blk BRa.out (by have := HG.out; omega) (by simp))
        have BP1 := am_ (hk.blk BPa.out (by have := HG.out; have := HG1.out; omega) (by simp))
        clear hi hb hk HIa HBa HKa BRa BPa E1
        go_wp2_with (go_at_call 71; refine park ?_)
        refine ⟨?_⟩
        refine (spec_l6Rd_pick.calls k1 g s0_0 s1 4 b s2 w0 _ HI1.out HB1.out E2.out).mono ?_
        rintro e W2 ⟨rfl, hi, hb, hk⟩
        have HI2 := am_ hi
        have HB2 := am_ hb
        have HK2 := am_ (KeepBut.trans HK1.out hk (.inl rfl))
        have BR2 := am_ (hk.blk BR1.out (by have := HG.out; omega) (by simp))
        have BP2 := am_ (hk.blk BP1.out (by have := HG.out; have := HG1.out; omega) (by simp))
        clear hi hb hk HI1 HB1 HK1 BR1 BP1 E2
        generalize wr.heap.size = gb at *
        go_upto_if 18 with fail
        go_cut [] from 8 to 66 (fun wc => ∃ (A : Option Addr) (cc : Nat), Aside0 (IsS116 w0 wc g s0_0 s3) ∧ Aside0 (Below w0.heap.size w0 wc) ∧ Aside0 (KeepBut w wc g none) ∧ Aside0 (wc.heap[w.heap.size]? = some (Obj.cells #[Value.slice none 0 0] 35)) ∧ Aside0 (wc.heap[gb]? = some (Obj.cells #[.slice A q.length cc] 35)) ∧ Aside0 (Kd.S (Kd.slice 85 k85) 82 wc (gb + 1) (fun _ => True) (.slice A q.length cc) q))
        case first =>
          by_cases hb0 : b = 0
          · subst hb0
            have e3 := E3.out
            simp only [spec_l71Prog.body, if_true] at e3
            obtain ⟨⟨rr, s4⟩, e4, e3⟩ := Option.bind_eq_some_iff.mp e3
            obtain ⟨⟨tt, s5⟩, e5, e3⟩ := Option.bind_eq_some_iff.mp e3
            obtain ⟨⟨c, s6⟩, e6, e3⟩ := Option.bind_eq_some_iff.mp e3
            have E4 := am_ e4
            have E5 := am_ e5
            have E6 := am_ e6
            have E7 := am_ e3
            clear e3 e4 e5 e6 E3
            have hcp : ∀ W : World, W.heap[gb]? = some (Obj.cells #[Value.slice none 0 0] 35) → W.cell? ⟨gb, 0, none⟩ = some (.slice none 0 0) := fun W h => (blk_cell h 0).trans rfl
            go_wp2_with (go_at_call 134; refine park ?_)
            refine ⟨?_⟩
            refine (spec_l71Reader.calls k1 g s0_0 s2 2 rr s4 w0 _ HI2.out HB2.out E4.out).mono ?_
            rintro e W3 ⟨vr, rfl, hR, hi, hb, hk⟩
            have HR3 := am_ hR
            have HI3 := am_ hi
            have HB3 := am_ hb
            have HK2s := am_ HK2.out.1
            have HK3s := am_ hk.1
            have HK3 := am_ (KeepBut.trans HK2.out hk (.inl rfl))
            have BR3 := am_ (hk.blk BR2.out (by have := HG.out; omega) (by simp))
            have BP3 := am_ (hk.blk BP2.out (by have := HG.out; have := HG1.out; omega) (by simp))
            have LT3 := am_ (show gb < W2.heap.size from blk_lt BP2.out)
            clear hR hi hb hk HI2 HB2 HK2 BR2 BP2 E4
            go_wp2_with (go_at_call 135; refine park ?_)
            refine ⟨?_⟩
            refine (spec_l71Waiter.calls k1 g s0_0 s4 2 tt s5 w0 _ HI3.out HB3.out E5.out).mono ?_
            rintro e W4 ⟨vt, rfl, hT, hi, hb, hk⟩
            obtain ⟨Ar, cr, rfl⟩ := Kd.R_slice HR3.out
            obtain ⟨At, ct, rfl⟩ := Kd.R_slice hT
            have HR4 := am_ (Kd.R_step (Kd.R_mono (ok' := fun k => W2.heap.size ≤ k ∧ k < W3.heap.size) (Kd.R_bound HR3.out) (fun k hk => ⟨hk.2.1, hk.2.2.1⟩)) (fun j hj hlt => hk.2 j hlt (by have := hj.1; have := LT3.out; have := HG.out; have := HG1.out; omega) (by simp)))
            have HT4 := am_ (Kd.R_mono (ok' := fun k => W3.heap.size ≤ k ∧ k < W4.heap.size) (Kd.R_bound hT) (fun k hk => ⟨hk.2.1, hk.2.2.1⟩))
            have HI4 := am_ hi
            have HB4 := am_ hb
            have HK4s := am_ hk.1
            have HK4 := am_ (KeepBut.trans HK3.out hk (.inl rfl))
            have BR4 := am_ (hk.blk BR3.out (by have := HG.out; omega) (by simp))
            have BP4 := am_ (hk.blk BP3.out (by have := HG.out; have := HG1.out; omega) (by simp))
            clear hT hi hb hk HI3 HB3 HK3 BR3 BP3 HR3 E5
            have hbp := blk_cell BP4.out 0
            have hfp := blk_frozen BP4.out 0
            go_wp2_with ((with_reducible refine gate_dst (N := 23) rfl ?_); refine park ?_)
            refine ⟨?_⟩
            have LW2 := am_ (show w.heap.size ≤ W2.heap.size from HK2s.out)
            have LW3 := am_ (show W2.heap.size ≤ W3.heap.size from HK3s.out)
            have LW4 := am_ (show W3.heap.size ≤ W4.heap.size from HK4s.out)
            refine Kd.S_lits (Kd.slice 85 k85) (w0 := W4) (gb + 1) 82 rfl (N := 23) rfl (xs := ([rr, tt] : List (List S85))) (inner := [.slice Ar rr.length cr, .slice At tt.length ct]) (ok := fun _ => True) (fun j k => (j = 0 ∧ W2.heap.size ≤ k ∧ k < W3.heap.size) ∨ (j = 1 ∧ W3.heap.size ≤ k)) ?hrun rfl ?hrep ?hap ?hok ?hfresh ?hB ?hbase (by simp) ?_
            case hrun => first | (go_simp; done) | (go_simp; rfl)
            case hrep =>
              intro j x hj
              match j, hj with
              | 0, hj => obtain rfl : rr = x := by simpa using hj
                         exact Kd.M_row (Kd.R_lower (Kd.R_mono HR4.out (fun k hk => .inl ⟨rfl, hk⟩)) LT3.out)
              | 1, hj => obtain rfl : tt = x := by simpa using hj
                         exact Kd.M_row (Kd.R_lower (Kd.R_mono HT4.out (fun k hk => .inr ⟨rfl, hk.1⟩)) (Nat.le_trans LT3.out LW3.out))
              | j + 2, hj => exact absurd hj (by simp)
            case hap => intro i j k h1 h2; rcases h1 with h1 | h1 <;> rcases h2 with h2 | h2 <;> omega
            case hok => intro j k hk; trivial
            case hfresh => trivial
            case hB => exact Below.refl _ _
            case hbase => have := LT3.out; have := LW3.out; have := LW4.out; omega
            intro v5 W5 hS hBw hgr hat
            obtain ⟨Av, cv, rfl⟩ := Kd.S_slice hS
            have HS5 := am_ hS
            have HI5 := am_ (IsS116.grown HI4.out hgr (by simp))
            have HB5 := am_ (HB4.out.grown hgr HB4.out.size (by simp))
            have HK5 := am_ (KeepBut.trans HK4.out (KeepBut.of_grown hgr g) (by simp))
            have BR5 := am_ (blk_grown BR4.out hgr (by simp))
            have BP5 := am_ (blk_grown BP4.out hgr (by simp))
            have HK5s := am_ hgr.size
            clear hS hBw hgr hat HI4 HB4 HK4 BR4 BP4 hbp hfp HR4 HT4
            have hbp := blk_cell BP5.out 0
            have hfp := blk_frozen BP5.out 0
            go_wp2_with (go_at_call 71; refine park ?_)
            clear hbp hfp
            refine ⟨?_⟩
            have BP6 := am_ (blk_set BP5.out 0 (.slice Av 2 cv))
            have BR6 := am_ (blk_far BR5.out (p := ⟨gb, 0, none⟩) (by have := HG1.out; show w.heap.size ≠ gb; omega) (.slice Av 2 cv))
            have HS6 := am_ (Kd.S_far (p := ⟨gb, 0, none⟩) (Kd.S_bound HS5.out) (fun k hk => by show k ≠ gb; have := hk.2.1; omega) (.slice Av 2 cv))
            have HI6 := am_ (IsS116.far (p := ⟨gb, 0, none⟩) HI5.out (by have := HG.out; have := HG1.out; show g ≠ gb; omega) (.slice Av 2 cv))
            have HB6 := am_ (below_set (g := gb) (j := 0) (v := .slice Av 2 cv) HB5.out (by have := HG1.out; have := HWW.out; omega))
            have HK6 := am_ (keep_set_new (p := ⟨gb, 0, none⟩) HK5.out (by have := HG1.out; show w.heap.size ≤ gb; omega) (.slice Av 2 cv))
            clear BP5 BR5 HS5 HI5 HB5 HK5
            refine (spec_l6Rd_pick.calls k1 g s0_0 s5 3 c s6 w0 _ HI6.out HB6.out E6.out).mono ?_
            rintro e W7 ⟨rfl, hi, hb, hk⟩
            have HI7 := am_ hi
            have HB7 := am_ hb
            have HK7 := am_ (KeepBut.trans HK6.out hk (.inl rfl))
            have BR7 := am_ (hk.blk BR6.out (by have := HG.out; omega) (by simp))
            have BP7 := am_ (hk.blk BP6.out (by have := HG.out; have := HG1.out; omega) (by simp))
            have HS7 := am_ (Kd.S_mono (ok' := fun _ => True) (Kd.S_keep HS6.out hk (fun k hk => by have := hk.2.1; have := HG.out; have := HG1.out; omega)) (fun _ _ => trivial))
            clear hi hb hk HI6 HB6 HK6 BR6 BP6 HS6 E6
            by_cases hc0 : c = 0
            · subst hc0
              have e7 := E7.out
              rw [if_pos rfl] at e7
              by_cases hl : rr.length < 1000
              rotate_left
              · rw [if_neg hl] at e7; cases e7
              rw [if_pos hl] at e7
              obtain ⟨⟨d1, d2, d3, s7⟩, e8, e7⟩ := Option.bind_eq_some_iff.mp e7
              simp only [Option.some.injEq, Prod.mk.injEq] at e7
              obtain ⟨rfl, rfl⟩ := e7
              have E8 := am_ e8
              have HRL := am_ hl
              clear e8 hl E7
              obtain ⟨go, capo, eA, hgo0, hgol, cells, hcells⟩ := Kd.S_form HS7.out (by simp)
              have hS := HS7.out
              rw [eA] at hS
              obtain ⟨oki, cs, hlen, hM, hcc, hoki, hH⟩ := Kd.S_lend hS [] 0 (by omega) (by simp)
              obtain ⟨u, rfl, hRu⟩ := (show (Kd.slice 85 k85).M W7 (gb + 1) oki rr cs from hM)
              obtain ⟨Au, cu, rfl⟩ := Kd.R_slice hRu
              have hcu : W7.cell? ⟨go, 0, none⟩ = some (.slice Au rr.length cu) := hcc 0 _ rfl
              injection eA with eA1 eA2 eA3
              subst eA1 eA3
              have HCU := am_ hcu
              have HR7 := am_ hRu
              have HH7 := am_ hH
              have GO0 := am_ hgo0
              have HOK := am_ hoki
              have GL7 := am_ hgol
              clear hcu hRu hH hS hcc hcells hM hlen hgol HS7
              go_wp2_with fail
              have HI8 := am_ (IsS116.drew HI7.out)
              have HB8 := am_ (below_drew HB7.out)
              have HK8 := am_ (keep_drew HK7.out)
              have BR8 := am_ (blk_drew BR7.out)
              have BP8 := am_ (blk_drew BP7.out)
              have HR8 := am_ (Kd.R_drew HR7.out)
              have HH8 := am_ (Kd.H_drew HH7.out)
              have CU8 := am_ (show W7.drew.cell? ⟨go, 0, none⟩ = some (.slice Au rr.length cu) from HCU.out)
              clear HI7 HB7 HK7 BR7 BP7 HR7 HH7 HCU
              refine start_ (n := 12) (S := fun w' => w'.cell? ⟨gb, 0, none⟩ = some (.slice (some ⟨go, 0, none⟩) 2 cv) ∧ w'.cell? ⟨go, 0, none⟩ = some (.slice Au rr.length cu)) (ds := [11]) #[false, false, false, false, false, false, false, false, false, false, false, false] (by kernel_rfl) rfl rfl ⟨(blk_cell BP8.out 0).trans rfl, CU8.out⟩ (fun hHeld => ?_)
              refine with_tabW spec_l71Prog.tab9 spec_l71Prog.bits9 (fun HT_ HW_ => ?_)
              have GL8 := am_ (show go < W7.drew.heap.size from GL7.out)
              clear GL7
              generalize W7.drew = wq at GL8 HI8 HB8 HK8 BR8 BP8 HR8 HH8 CU8 hHeld ⊢
              refine pure_ (i := 0) (N := some 28) (v := ?_) (a' := ?_) #[true, false, false, false, false, false, false, false, false, false, false, false] rfl rfl (any_of HT_.out (by kernel_rfl)) (fun _ _ _ h => h) (Or.inl ⟨by rfl, ?_⟩) ?_ ?_
              rotate_left
              · intro w'
                go_simp
                with_reducible rfl
              rotate_left
              · simp only [Act.put, List.setIfInBounds_toArray, List.set_cons_zero, List.set_cons_succ, i64_w, i32_w]
                rfl
              refine pure_ (i := 2) (N := some 30) (v := ?_) (a' := ?_) #[true, false, true, false, false, false, false, false, false, false, false, false] rfl rfl (any_of HT_.out (by kernel_rfl)) (fun _ _ _ h => h) (Or.inl ⟨by rfl, ?_⟩) ?_ ?_
              rotate_left
              · intro w'
                go_simp
                with_reducible rfl
              rotate_left
              · simp only [Act.put, List.setIfInBounds_toArray, List.set_cons_zero, List.set_cons_succ, i64_w, i32_w]
                rfl
              refine pure_ (i := 6) (N := some 34) (v := ?_) (a' := ?_) #[true, false, true, false, false, false, true, false, false, false, false, false] rfl rfl (any_of HT_.out (by kernel_rfl)) (fun _ _ _ h => h) (Or.inl ⟨by rfl, ?_⟩) ?_ ?_
              rotate_left
              · intro w'
                go_simp
                with_reducible rfl
              rotate_left
              · simp only [Act.put, List.setIfInBounds_toArray, List.set_cons_zero, List.set_cons_succ, i64_w, i32_w]
                rfl
              refine take_ (i := 1) (N := some 29) (v := ?_) (a' := ?_) #[true, true, true, false, false, false, true, false, false, false, false, false] rfl rfl (take_ofW HT_.out HW_.out (by kernel_rfl)) (fun _ _ _ h => h) (Or.inl ⟨by rfl, ?_⟩) hHeld ?_ ?_
              rotate_left
              · intro w' s0
                have s1 := s0.1
                go_simp
                with_reducible rfl
              rotate_left
              · simp only [Act.put, List.setIfInBounds_toArray, List.set_cons_zero, List.set_cons_succ, i64_w, i32_w]
                rfl
              refine take_ (i := 3) (N := some 31) (v := ?_) (a' := ?_) #[true, true, true, true, false, false, true, false, false, false, false, false] rfl rfl (take_ofW HT_.out HW_.out (by kernel_rfl)) (fun _ _ _ h => h) (Or.inl ⟨by rfl, ?_⟩) hHeld ?_ ?_
              rotate_left
              · intro w' s0
                have s1 := s0.1
                go_simp
                with_reducible rfl
              rotate_left
              · simp only [Act.put, List.setIfInBounds_toArray, List.set_cons_zero, List.set_cons_succ, i64_w, i32_w]
                rfl
              refine pure_ (i := 4) (N := some 32) (v := ?_) (a' := ?_) #[true, true, true, true, true, false, true, false, false, false, false, false] rfl rfl (any_of HT_.out (by kernel_rfl)) (fun _ _ _ h => h) (Or.inl ⟨by rfl, ?_⟩) ?_ ?_
              rotate_left
              · intro w'
                go_simp
                with_reducible rfl
              rotate_left
              · simp only [Act.put, List.setIfInBounds_toArray, List.set_cons_zero, List.set_cons_succ, i64_w, i32_w]
                rfl
              refine take_ (i := 5) (N := some 33) (v := ?_) (a' := ?_) #[true, true, true, true, true, true, true, false, false, false, false, false] rfl rfl (take_ofW HT_.out HW_.out (by kernel_rfl)) (fun _ _ _ h => h) (Or.inl ⟨by rfl, ?_⟩) hHeld ?_ ?_
              rotate_left
              · intro w' s0
                have s1 := s0.2
                go_simp
                with_reducible rfl
              rotate_left
              · simp only [Act.put, List.setIfInBounds_toArray, List.set_cons_zero, List.set_cons_succ, i64_w, i32_w]
                rfl
              refine one_ (i := 7) (N := some 35) #[true, true, true, true, true, true, true, true, false, false, false, false] rfl rfl (one_of HT_.out (by kernel_rfl)) (by decide) (fun K hK => ?_)
              refine goes_ Try.func121 (by kernel_rfl) rfl #[.pointer (some ⟨g, 0, none⟩), .int .i64 2] (by rfl) rfl rfl (by (try simp only [List.map_toArray, List.map_cons, List.map_nil]); first | done | rfl) ?_
              with_reducible refine (spec_l71Do.calls k1 g s0_0 s6 2 d1 d2 d3 s7 w0 _ HI8.out HB8.out E8.out).mono ?_
              rintro e W9 ⟨rfl, hi, hb, hk⟩
              refine ⟨_, rfl, ?_⟩
              have HI9 := am_ hi
              have HB9 := am_ hb
              have HK9 := am_ (KeepBut.trans HK8.out hk (.inl rfl))
              have BR9 := am_ (hk.blk BR8.out (by have := HG.out; omega) (by simp))
              have BP9 := am_ (hk.blk BP8.out (by have := HG.out; have := HG1.out; omega) (by simp))
              have HR9 := am_ (Kd.R_mono (ok' := oki) (Kd.R_keep (Kd.R_bound HR8.out) hk (fun k hk => by have := hk.2.1; have := HG.out; have := HG1.out; omega)) (fun k hk => hk.1))
              have HH9 := am_ (Kd.H_widen (Kd.H_mono (ok' := fun _ => True) (spec_l71Prog.H_keepB HH8.out hk (by have := HG.out; have := HG1.out; omega)) (fun _ _ => trivial)))
              have SZ9 := am_ (show gb + 1 ≤ W9.heap.size from by have := blk_lt BP9.out; omega)
              have GL9 := am_ (show go < W9.heap.size from by have := GL8.out; have := hk.1; omega)
              clear GL8 hi hb hk HI8 HB8 HK8 BR8 BP8 HR8 HH8 CU8 E8
              have CU9 := am_ ((Kd.H_at HH9.out (by simp) (by simp)).1 0 _ rfl)
              refine hK.out _ _ ⟨(blk_cell BP9.out 0).trans rfl, CU9.out⟩ (fun hHeld => ?_)
              clear hK K
              refine norm_ (a' := ?_) ?_ ?_
              rotate_left
              · show Act.put _ (some 35) _ = _
                simp only [Act.put, List.setIfInBounds_toArray, List.set_cons_zero, List.set_cons_succ, i64_w, i32_w]
                rfl
              refine one_ (i := 8) (N := some 36) #[true, true, true, true, true, true, true, true, true, false, false, false] rfl rfl (one_of HT_.out (by kernel_rfl)) (by decide) (fun K hK => ?_)
              refine value_ (w1 := ?_) (v := ?_) (by rfl) rfl ?_ ?_
              rotate_left 2
              · go_simp
                constructor
                · rfl
                rfl
              refine hK.out _ _ ⟨(blk_cell (blk_alloc BP9.out _) 0).trans rfl, (World.cell?_alloc_lt _ _ _ GL9.out).trans CU9.out⟩ (fun hHeld => ?_)
              clear hK K
              refine norm_ (a' := ?_) ?_ ?_
              rotate_left
              · show Act.put _ (some 36) _ = _
                simp only [Act.put, List.setIfInBounds_toArray, List.set_cons_zero, List.set_cons_succ, i64_w, i32_w]
                rfl
              refine one_ (i := 9) (N := some 37) #[true, true, true, true, true, true, true, true, true, true, false, false] rfl rfl (one_of HT_.out (by kernel_rfl)) (by decide) (fun K hK => ?_)
              refine Kd.R_append_step k85 (w0 := W9) (gb + 1) (by rfl) (.tmp 33) (.tmp 36) 82 85 (.agg #[(.int .i64 0), (.int .i64 0), (.int .i64 0)]) 24 rfl Try.underlying82 info85 rfl (by decide) (by omega) (.slice Au rr.length cu) rr (⟨d1, d2, d3⟩ : S85) [.int .i64 d1, .int .i64 d2, .int .i64 d3] (fun k => oki k ∨ True ∧ W9.heap.size ≤ k) (fun _ => False) rfl rfl ?aP (fun _ hk => hk.elim) ?aF ?aO (Below.refl _ _) ?aS ?aL ?_
              (case aP => exact k85_mkM _ _ _ (⟨d1, d2, d3⟩ : S85))
              (case aF => exact (fun _ hk => .inr ⟨trivial, hk⟩))
              (case aO => exact Kd.R_mono HR9.out (fun _ hk => .inl hk))
              (case aS => exact SZ9.out)
              (case aL => have := HRL.out; omega)
              intro v10 W10 ho hb hg hat
              obtain ⟨A10, c10, rfl⟩ := Kd.R_slice ho
              have hrow : ∀ k, (Value.slice Au rr.length cu).ownBlock = some k → oki k := fun k hk => HR9.out.1 k hk
              have hro : ∀ k, (Value.slice Au rr.length cu).ownBlock = some k → gb + 1 ≤ k := fun k hk => Kd.R_base HR9.out k hk
              have hog : some g ≠ (Value.slice Au rr.length cu).ownBlock := fun e => by have := hro g e.symm; have := HG.out; have := HG1.out; omega
              have how : some w.heap.size ≠ (Value.slice Au rr.length cu).ownBlock := fun e => by have := hro _ e.symm; have := HG1.out; omega
              have hob : some gb ≠ (Value.slice Au rr.length cu).ownBlock := fun e => by have := hro _ e.symm; omega
              have HI10 := am_ (IsS116.grown HI9.out hg hog)
              have HB10 := am_ (HB9.out.grown hg HB9.out.size (fun k hk => by have := hro k hk; have := HWW.out; have := HG1.out; omega))
              have HK10 := am_ (KeepBut.trans HK9.out (KeepBut.of_grown hg g) (by
                rcases h0 : (Value.slice Au rr.length cu).ownBlock with _ | k
                · exact .inl rfl
                exact .inr ⟨k, rfl, by have := hro k h0; have := HG1.out; omega⟩))
              have BR10 := am_ (blk_grown BR9.out hg how)
              have BP10 := am_ (blk_grown BP9.out hg hob)
              have HH10 := am_ (Kd.H_grown HH9.out hg (fun k hk => .inl (hrow k hk)))
              have HR10 := am_ ho
              clear ho hb hg hat hrow hro hog how hob HI9 HB9 HK9 BR9 BP9 HR9 HH9 CU9
              have CU10 := am_ ((Kd.H_at HH10.out (by simp) (by simp)).1 0 _ rfl)
              have FU10 := am_ ((Kd.H_at HH10.out (by simp) (by simp)).2 0)
              refine hK.out _ _ ⟨(blk_cell BP10.out 0).trans rfl, CU10.out⟩ (fun hHeld => ?_)
              clear hK K
              refine norm_ (a' := ?_) ?_ ?_
              rotate_left
              · show Act.put _ (some 37) _ = _
                simp only [Act.put, List.setIfInBounds_toArray, List.set_cons_zero, List.set_cons_succ, i64_w, i32_w]
                rfl
              refine pure_ (i := 10) (N := some 38) (v := ?_) (a' := ?_) #[true, true, true, true, true, true, true, true, true, true, true, false] rfl rfl (any_of HT_.out (by kernel_rfl)) (fun _ _ _ h => h) (Or.inl ⟨by rfl, ?_⟩) ?_ ?_
              rotate_left
              · intro w'
                go_simp
                with_reducible rfl
              rotate_left
              · simp only [Act.put, List.setIfInBounds_toArray, List.set_cons_zero, List.set_cons_succ, i64_w, i32_w]
                rfl
              refine last_ (i := 11) (N := none) #[true, true, true, true, true, true, true, true, true, true, true, true] rfl rfl (one_of HT_.out (by kernel_rfl)) (by decide) (fun K hK => ?_)
              have hs18 : W10.cell? ⟨go, 0, none⟩ = some (.slice Au rr.length cu) := CU10.out
              have hfs18 : W10.frozen? ⟨go, 0, none⟩ = false := FU10.out
              refine skip_ (w1 := ?_) (by rfl) rfl ?_ ?_
              rotate_left
              · go_simp
                rfl
              refine hK.out _ _ ?_
              clear hK K
              refine done_ (done_of HT_.out (by kernel_rfl)) ?_
              try go_wp2
              have HGW := HG.out
              have HG1W := HG1.out
              have HGO := GO0.out
              have HSZ := HWW.out
              obtain ⟨hS, -⟩ := Kd.S_seg0 HH10.out (by simp) (by simp) (seg := [Value.slice A10 (rr ++ [(⟨d1, d2, d3⟩ : S85)]).length c10]) (j := 0) (x' := rr ++ [(⟨d1, d2, d3⟩ : S85)]) (okp := fun k => oki k ∨ True ∧ W9.heap.size ≤ k) (Nat.le_refl 1) (Kd.M_row HR10.out) (fun _ hk => hk)
              rw [List.length_append, List.length_singleton] at hS
              go_meet
              case rel =>
                exact ⟨some ⟨go, 0, none⟩, cv, ⟨IsS116.far (p := ⟨go, 0, none⟩) HI10.out (by show g ≠ go; omega) _⟩, ⟨below_set (g := go) (j := 0) HB10.out (by omega)⟩, ⟨keep_set_new (p := ⟨go, 0, none⟩) HK10.out (by show w.heap.size ≤ go; omega) _⟩, ⟨blk_far BR10.out (p := ⟨go, 0, none⟩) (by show w.heap.size ≠ go; omega) _⟩, ⟨blk_far BP10.out (p := ⟨go, 0, none⟩) (by show gb ≠ go; omega) _⟩, ⟨hS⟩⟩
            have hc0f : (c == 0) = false := by simpa using hc0
            have e7 := E7.out
            rw [if_neg hc0] at e7
            simp only [Option.some.injEq, Prod.mk.injEq] at e7
            obtain ⟨rfl, rfl⟩ := e7
            clear E7
            go_wp2_with fail
            go_meet
            case rel => exact ⟨Av, cv, HI7, HB7, HK7, BR7, BP7, HS7⟩
          have hb0f : (b == 0) = false := by simpa using hb0
          have e3 := E3.out
          unfold spec_l71Prog.body at e3
          rw [if_neg hb0] at e3
          obtain ⟨⟨m, s4⟩, e4, e3⟩ := Option.bind_eq_some_iff.mp e3
          have E4 := am_ e4
          have E5 := am_ e3
          clear e3 e4 E3
          go_wp2_with (go_at_call 71; refine park ?_)
          refine ⟨?_⟩
          refine (spec_l6Rd_pick.calls k1 g s0_0 s2 2 m s4 w0 _ HI2.out HB2.out E4.out).mono ?_
          rintro e W3 ⟨rfl, hi, hb, hk⟩
          have HI3 := am_ hi
          have HB3 := am_ hb
          have HK3 := am_ (KeepBut.trans HK2.out hk (.inl rfl))
          have BR3 := am_ (hk.blk BR2.out (by have := HG.out; omega) (by simp))
          have BP3 := am_ (hk.blk BP2.out (by have := HG.out; have := HG1.out; omega) (by simp))
          clear hi hb hk HI2 HB2 HK2 BR2 BP2 E4
          go_wp2_with fail
          have E5' := am_ (show spec_l71Prog.l1 k1 (wrap64 (2 + m)) 0 (wrap64 (1 + a)) [] s0_0 s4 = some (q, s3) from E5.out)
          clear E5
          generalize wrap64 (2 + m) = M at *
          generalize wrap64 (1 + a) = pl at *
          go_loopg [7] k1 (fun kq v7 W => ∃ (x s : Int) (u : Value) (p : List (List S85)), v7 = .int .i64 x ∧ Aside0 (spec_l71Prog.l1 kq M x pl p s0_0 s = some (q, s3)) ∧ Aside0 (IsS116 w0 W g s0_0 s) ∧ Aside0 (Below w0.heap.size w0 W) ∧ Aside0 (KeepBut w W g none) ∧ Aside0 (W.heap[w.heap.size]? = some (Obj.cells #[Value.slice none 0 0] 35)) ∧ Aside0 (W.heap[gb]? = some (Obj.cells #[u] 35)) ∧ Aside0 (Kd.S (Kd.slice 85 k85) 82 W (gb + 1) (fun _ => True) u p))
          case atStart => exact ⟨0, s4, .slice none 0 0, [], rfl, E5', HI3, HB3, HK3, BR3, BP3, ⟨Kd.S_nil _ _ _ _ _⟩⟩
          case round =>
            obtain ⟨x, s, u, p, rfl, HA, HIr, HBr, HKr, BRr, BPr, HOr⟩ := hrel
            clear HI3 HB3 HK3 BR3 BP3 E5'
            cases gk with
            | zero => exact absurd HA.out (by simp [spec_l71Prog.l1])
            | succ k2 =>
              have HH := HA.out
              clear HA
              simp only [spec_l71Prog.l1] at HH
              by_cases hx : x < M
              · rw [if_pos hx] at HH
                by_cases hM : M = 0
                · rw [if_pos hM] at HH; cases HH
                rw [if_neg hM] at HH
                by_cases hL : p.length < 1000
                rotate_left
                · rw [if_neg hL] at HH; cases HH
                rw [if_pos hL] at HH
                obtain ⟨⟨pa, s5⟩, e5, HH⟩ := Option.bind_eq_some_iff.mp HH
                obtain ⟨⟨th, s6⟩, e6, HH⟩ := Option.bind_eq_some_iff.mp HH
                have E5 := am_ e5
                have E6 := am_ e6
                have HNx := am_ HH
                have HPL := am_ hL
                clear e5 e6 HH hL
                go_wp2_with fail
                have GBL := am_ (show gb < wr.heap.size from blk_lt BPr.out)
                have HI4 := am_ (IsS116.drew HIr.out)
                have HB4 := am_ (below_drew HBr.out)
                have HK4 := am_ (keep_drew HKr.out)
                have BR4 := am_ (blk_drew BRr.out)
                have BP4 := am_ (blk_drew BPr.out)
                have HO4 := am_ (Kd.S_drew HOr.out)
                clear HIr HBr HKr BRr BPr HOr
                refine start_ (n := 14) (S := fun w' => w'.cell? ⟨gb, 0, none⟩ = some u) (ds := [13]) #[false, false, false, false, false, false, false, false, false, false, false, false, false, false] (by kernel_rfl) rfl rfl ((blk_cell BP4.out 0).trans rfl) (fun hHeld => ?_)
                refine with_tabW spec_l71Prog.tab14 spec_l71Prog.bits14 (fun HT_ HW_ => ?_)
                generalize wr.drew = wq at HI4 HB4 HK4 BR4 BP4 HO4 hHeld ⊢
                refine pure_ (i := 0) (N := some 47) (v := ?_) (a' := ?_) #[true, false, false, false, false, false, false, false, false, false, false, false, false, false] rfl rfl (any_of HT_.out (by kernel_rfl)) (fun _ _ _ h => h) (Or.inl ⟨by rfl, ?_⟩) ?_ ?_
                rotate_left
                · intro w'
                  go_simp
                  with_reducible rfl
                rotate_left
                · simp only [Act.put, List.setIfInBounds_toArray, List.set_cons_zero, List.set_cons_succ, i64_w, i32_w]
                  rfl
                refine pure_ (i := 2) (N := some 49) (v := ?_) (a' := ?_) #[true, false, true, false, false, false, false, false, false, false, false, false, false, false] rfl rfl (any_of HT_.out (by kernel_rfl)) (fun _ _ _ h => h) (Or.inl ⟨by rfl, ?_⟩) ?_ ?_
                rotate_left
                · intro w'
                  go_simp
                  with_reducible rfl
                rotate_left
                · simp only [Act.put, List.setIfInBounds_toArray, List.set_cons_zero, List.set_cons_succ, i64_w, i32_w]
                  rfl
                refine pure_ (i := 3) (N := some 50) (v := ?_) (a' := ?_) #[true, false, true, true, false, false, false, false, false, false, false, false, false, false] rfl rfl (any_of HT_.out (by kernel_rfl)) (fun _ _ _ h => h) (Or.inl ⟨by rfl, ?_⟩) ?_ ?_
                rotate_left
                · intro w'
                  go_simp
                  with_reducible rfl
                rotate_left
                · simp only [Act.put, List.setIfInBounds_toArray, List.set_cons_zero, List.set_cons_succ, i64_w, i32_w]
                  rfl
                refine pure_ (i := 4) (N := some 51) (v := ?_) (a' := ?_) #[true, false, true, true, true, false, false, false, false, false, false, false, false, false] rfl rfl (any_of HT_.out (by kernel_rfl)) (fun _ _ _ h => h) (Or.inl ⟨by rfl, ?_⟩) ?_ ?_
                rotate_left
                · intro w'
                  go_simp
                  with_reducible rfl
                rotate_left
                · simp only [Act.put, List.setIfInBounds_toArray, List.set_cons_zero, List.set_cons_succ, i64_w, i32_w]
                  rfl
                refine pure_ (i := 5) (N := some 52) (v := ?_) (a' := ?_) #[true, false, true, true, true, true, false, false, false, false, false, false, false, false] rfl rfl (any_of HT_.out (by kernel_rfl)) (fun _ _ _ h => h) (Or.inl ⟨by rfl, ?_⟩) ?_ ?_
                rotate_left
                · intro w'
                  go_simp
                  with_reducible rfl
                rotate_left
                · simp only [Act.put, List.setIfInBounds_toArray, List.set_cons_zero, List.set_cons_succ, i64_w, i32_w]
                  rfl
                refine pure_ (i := 8) (N := some 55) (v := ?_) (a' := ?_) #[true, false, true, true, true, true, false, false, true, false, false, false, false, false] rfl rfl (any_of HT_.out (by kernel_rfl)) (fun _ _ _ h => h) (Or.inl ⟨by rfl, ?_⟩) ?_ ?_
                rotate_left
                · intro w'
                  go_simp
                  with_reducible rfl
                rotate_left
                · simp only [Act.put, List.setIfInBounds_toArray, List.set_cons_zero, List.set_cons_succ, i64_w, i32_w]
                  rfl
                refine take_ (i := 1) (N := some 48) (v := ?_) (a' := ?_) #[true, true, true, true, true, true, false, false, true, false, false, false, false, false] rfl rfl (take_ofW HT_.out HW_.out (by kernel_rfl)) (fun _ _ _ h => h) (Or.inl ⟨by rfl, ?_⟩) hHeld ?_ ?_
                rotate_left
                · intro w' s0
                  have s1 := s0
                  go_simp
                  with_reducible rfl
                rotate_left
                · simp only [Act.put, List.setIfInBounds_toArray, List.set_cons_zero, List.set_cons_succ, i64_w, i32_w]
                  rfl
                refine one_ (i := 6) (N := some 53) #[true, true, true, true, true, true, true, false, true, false, false, false, false, false] rfl rfl (one_of HT_.out (by kernel_rfl)) (by decide) (fun K hK => ?_)
                refine goes_ Try.func71 (by kernel_rfl) rfl #[.pointer (some ⟨g, 0, none⟩), .int .i64 2] (by rfl) rfl rfl (by (try simp only [List.map_toArray, List.map_cons, List.map_nil]); first | done | rfl) ?_
                with_reducible refine (spec_l6Rd_pick.calls k2 g s0_0 s 2 pa s5 w0 _ HI4.out HB4.out E5.out).mono ?_
                rintro e W5 ⟨rfl, hi, hb, hk⟩
                refine ⟨_, rfl, ?_⟩
                have HI5 := am_ hi
                have HB5 := am_ hb
                have HK5 := am_ (KeepBut.trans HK4.out hk (.inl rfl))
                have BR5 := am_ (hk.blk BR4.out (by have := HG.out; omega) (by simp))
                have BP5 := am_ (hk.blk BP4.out (by have := HG.out; have := HG1.out; omega) (by simp))
                have HO5 := am_ (Kd.S_mono (ok' := fun _ => True) (Kd.S_keep (Kd.S_bound HO4.out) hk (fun k hk => by have := hk.2.1; have := HG.out; have := HG1.out; omega)) (fun _ _ => trivial))
                clear hi hb hk HI4 HB4 HK4 BR4 BP4 HO4 E5
                refine hK.out _ _ ((blk_cell BP5.out 0).trans rfl) (fun hHeld => ?_)
                clear hK K
                refine norm_ (a' := ?_) ?_ ?_
                rotate_left
                · show Act.put _ (some 53) _ = _
                  simp only [Act.put, List.setIfInBounds_toArray, List.set_cons_zero, List.set_cons_succ, i64_w, i32_w]
                  rfl
                refine pure_ (i := 7) (N := some 54) (v := ?_) (a' := ?_) #[true, true, true, true, true, true, true, true, true, false, false, false, false, false] rfl rfl (any_of HT_.out (by kernel_rfl)) (fun _ _ _ h => h) (Or.inl ⟨by rfl, ?_⟩) ?_ ?_
                rotate_left
                · intro w'
                  go_simp
                  with_reducible rfl
                rotate_left
                · simp only [Act.put, List.setIfInBounds_toArray, List.set_cons_zero, List.set_cons_succ, i64_w, i32_w]
                  rfl
                refine one_ (i := 9) (N := some 56) #[true, true, true, true, true, true, true, true, true, true, false, false, false, false] rfl rfl (one_of HT_.out (by kernel_rfl)) (by decide) (fun K hK => ?_)
                refine goes_ Try.func86 (by kernel_rfl) rfl #[.pointer (some ⟨g, 0, none⟩), .int .i64 (wrap64 (wrap64 (Int.tdiv 6 M) + pa)), .int .i64 pl] (by rfl) rfl rfl (by (try simp only [List.map_toArray, List.map_cons, List.map_nil]); first | done | rfl) ?_
                with_reducible refine (spec_l71Thread.calls k2 g s0_0 s5 (wrap64 (wrap64 (Int.tdiv 6 M) + pa)) pl th s6 w0 _ HI5.out HB5.out E6.out).mono ?_
                rintro e W6 ⟨v6, rfl, hR, hi, hb, hk⟩
                refine ⟨_, rfl, ?_⟩
                obtain ⟨Ao, co, rfl⟩ := Kd.R_slice hR
                have LW5 := am_ (show gb + 1 ≤ W5.heap.size from by have := blk_lt BP5.out; omega)
                have HN6 := am_ (Kd.R_lower (base' := gb + 1) (Kd.R_mono (ok' := fun k => W5.heap.size ≤ k) (Kd.R_bound hR) (fun k hk => hk.2.1)) LW5.out)
                have HO6 := am_ (Kd.S_mono (ok' := fun k => k < W5.heap.size) (Kd.S_keep (Kd.S_bound HO5.out) hk (fun k hk => by have := hk.2.1; have := HG.out; have := HG1.out; omega)) (fun k hk => hk.2.2.1))
                have HI6 := am_ hi
                have HB6 := am_ hb
                have LW6 := am_ (show W5.heap.size ≤ W6.heap.size from hk.1)
                have HK6 := am_ (KeepBut.trans HK5.out hk (.inl rfl))
                have BR6 := am_ (hk.blk BR5.out (by have := HG.out; omega) (by simp))
                have BP6 := am_ (hk.blk BP5.out (by have := HG.out; have := HG1.out; omega) (by simp))
                clear hR hi hb hk HI5 HB5 HK5 BR5 BP5 HO5 E6
                refine hK.out _ _ ((blk_cell BP6.out 0).trans rfl) (fun hHeld => ?_)
                clear hK K
                refine norm_ (a' := ?_) ?_ ?_
                rotate_left
                · show Act.put _ (some 56) _ = _
                  simp only [Act.put, List.setIfInBounds_toArray, List.set_cons_zero, List.set_cons_succ, i64_w, i32_w]
                  rfl
                refine one_ (i := 10) (N := some 57) #[true, true, true, true, true, true, true, true, true, true, true, false, false, false] rfl rfl (one_of HT_.out (by kernel_rfl)) (by decide) (fun K hK => ?_)
                refine value_ (w1 := ?_) (v := ?_) (by rfl) rfl ?_ ?_
                rotate_left 2
                · go_simp
                  constructor
                  · rfl
                  rfl
                refine hK.out _ _ ((blk_cell (blk_alloc BP6.out _) 0).trans rfl) (fun hHeld => ?_)
                clear hK K
                refine norm_ (a' := ?_) ?_ ?_
                rotate_left
                · show Act.put _ (some 57) _ = _
                  simp only [Act.put, List.setIfInBounds_toArray, List.set_cons_zero, List.set_cons_succ, i64_w, i32_w]
                  rfl
                refine one_ (i := 11) (N := some 58) #[true, true, true, true, true, true, true, true, true, true, true, true, false, false] rfl rfl (one_of HT_.out (by kernel_rfl)) (by decide) (fun K hK => ?_)
                have hro : ∀ k, u.ownBlock = some k → gb + 1 ≤ k ∧ k < W5.heap.size := fun k hk => ⟨Kd.S_base HO6.out k hk, HO6.out.choose_spec.1 k hk⟩
                refine Kd.S_append_step (Kd.slice 85 k85) (w0 := W6) (gb + 1) (by rfl) (.tmp 48) (.tmp 57) 33 82 (.slice none 0 0) 24 rfl Try.underlying33 info82 rfl (by decide) (by omega) u p th [.slice Ao th.length co] (fun _ => True) (fun k_ => W5.heap.size ≤ k_) rfl rfl ?aP ?aK ?aF ?aO ?aB ?aS ?aL ?_
                (case aP => exact Kd.M_row HN6.out)
                (case aK => exact (fun k_ hk_ => ⟨trivial, fun e_ => by have := (hro k_ e_.symm).2; omega⟩))
                (case aB => exact Below.refl _ _)
                (case aF => exact (fun _ _ => trivial))
                (case aO => exact Kd.S_mono HO6.out (fun k_ hk => ⟨trivial, fun h_ => by omega⟩))
                (case aS => have := LW5.out; have := LW6.out; omega)
                (case aL => have := HPL.out; omega)
                intro v9 W9 ho hb hg hat
                obtain ⟨A9, c9, rfl⟩ := Kd.S_slice ho
                have hog : some g ≠ u.ownBlock := fun e => by have := (hro g e.symm).1; have := HG.out; have := HG1.out; omega
                have how : some w.heap.size ≠ u.ownBlock := fun e => by have := (hro _ e.symm).1; have := HG1.out; omega
                have hob : some gb ≠ u.ownBlock := fun e => by have := (hro _ e.symm).1; omega
                have HI9 := am_ (IsS116.grown HI6.out hg hog)
                have HB9 := am_ (HB6.out.grown hg HB6.out.size (fun k hk => by have := (hro k hk).1; have := HWW.out; have := HG1.out; omega))
                have HK9 := am_ (KeepBut.trans HK6.out (KeepBut.of_grown hg g) (by
                  rcases h0 : u.ownBlock with _ | k
                  · exact .inl rfl
                  exact .inr ⟨k, rfl, by have := (hro k h0).1; have := HG1.out; omega⟩))
                have BR9 := am_ (blk_grown BR6.out hg how)
                have BP9 := am_ (blk_grown BP6.out hg hob)
                have HO9 := am_ ho
                clear ho hb hg hat hro hog how hob HI6 HB6 HK6 BR6 BP6 HO6 HN6
                refine hK.out _ _ ((blk_cell BP9.out 0).trans rfl) (fun hHeld => ?_)
                clear hK K
                refine norm_ (a' := ?_) ?_ ?_
                rotate_left
                · show Act.put _ (some 58) _ = _
                  simp only [Act.put, List.setIfInBounds_toArray, List.set_cons_zero, List.set_cons_succ, i64_w, i32_w]
                  rfl
                refine pure_ (i := 12) (N := some 59) (v := ?_) (a' := ?_) #[true, true, true, true, true, true, true, true, true, true, true, true, true, false] rfl rfl (any_of HT_.out (by kernel_rfl)) (fun _ _ _ h => h) (Or.inl ⟨by rfl, ?_⟩) ?_ ?_
                rotate_left
                · intro w'
                  go_simp
                  with_reducible rfl
                rotate_left
                · simp only [Act.put, List.setIfInBounds_toArray, List.set_cons_zero, List.set_cons_succ, i64_w, i32_w]
                  rfl
                refine last_ (i := 13) (N := none) #[true, true, true, true, true, true, true, true, true, true, true, true, true, true] rfl rfl (one_of HT_.out (by kernel_rfl)) (by decide) (fun K hK => ?_)
                have hs18 : W9.cell? ⟨gb, 0, none⟩ = some u := (blk_cell BP9.out 0).trans rfl
                have hfs18 := blk_frozen BP9.out 0
                refine skip_ (w1 := ?_) (by rfl) rfl ?_ ?_
                rotate_left
                · go_simp
                  rfl
                refine hK.out _ _ ?_
                clear hK K
                refine done_ (done_of HT_.out (by kernel_rfl)) ?_
                clear hs18 hfs18
                try go_wp2
                have HGW := HG.out
                have HG1W := HG1.out
                have HSZ := HWW.out
                go_roundg k2
                case measure => omega
                case rel =>
                  have HO10 := HO9.out
                  rw [List.length_append, List.length_singleton] at HO10
                  exact ⟨_, s6, .slice A9 (p.length + 1) c9, p ++ [th], rfl, HNx, ⟨IsS116.far (p := ⟨gb, 0, none⟩) HI9.out (by show g ≠ gb; omega) _⟩, ⟨below_set (g := gb) (j := 0) HB9.out (by omega)⟩, ⟨keep_set_new (p := ⟨gb, 0, none⟩) HK9.out (by show w.heap.size ≤ gb; omega) _⟩, ⟨blk_far BR9.out (p := ⟨gb, 0, none⟩) (by show w.heap.size ≠ gb; omega) _⟩, ⟨blk_set BP9.out 0 _⟩, ⟨Kd.S_mono (Kd.S_far (p := ⟨gb, 0, none⟩) (Kd.S_bound HO10) (fun k hk => by show k ≠ gb; have := hk.2.1; omega) _) (fun _ _ => trivial)⟩⟩
              rw [if_neg hx] at HH
              simp only [Option.some.injEq, Prod.mk.injEq] at HH
              obtain ⟨rfl, rfl⟩ := HH
              obtain ⟨A, cc, rfl⟩ := Kd.S_slice HOr.out
              go_wp2_with fail
              go_meet
              case rel => exact ⟨A, cc, HIr, HBr, HKr, BRr, BPr, HOr⟩
        case rest =>
          obtain ⟨A, cc, HIc, HBc, HKc, BRc, BPc, HSc⟩ := hcut
          clear HI2 HB2 HK2 BR2 BP2 E3
          have HN0 := HN.out
          obtain ⟨ok, e8, HN0⟩ := Option.bind_eq_some_iff.mp HN0
          clear HN
          have E8 := am_ e8
          have HN := am_ HN0
          clear e8 HN0
          have hbp := blk_cell BPc.out 0
          go_wp2_with (go_at_call 43; refine park ?_)
          clear hbp
          refine ⟨?_⟩
          have CW := Kd.S_reads' HSc.out
          refine (spec_ProgOk.calls k1 A cc q ok wc CW.2.2 CW.2.1 E8.out).mono ?_
          rintro e W8 ⟨rfl, hb⟩
          have HI8 := am_ (IsS116.below HIc.out hb)
          have HB8 := am_ (below_then HBc.out HBc.out.size hb)
          have HK8 := am_ (KeepBut.trans HKc.out (KeepBut.of_below hb g none) (.inl rfl))
          have BR8 := am_ (blk_below BRc.out hb)
          have BP8 := am_ (blk_below BPc.out hb)
          have HS8 := am_ (Kd.S_below HSc.out hb)
          clear hb CW HIc HBc HKc BRc BPc HSc E8
          cases ok
          · have HN' := am_ (show spec_l71Prog.l0 k1 (wrap64 (i + 1)) s0_0 s3 = some (r1, r2) from HN.out)
            clear HN
            go_wp2_with fail
            go_roundg k1
            case measure => omega
            case rel => exact ⟨_, _, rfl, HN', ⟨by have := HK.out; omega⟩, HI8, HB8, HK8, BR8⟩
          have HN0 := HN.out
          rw [if_pos rfl] at HN0
          obtain ⟨m, e9, HN0⟩ := Option.bind_eq_some_iff.mp HN0
          have E9 := am_ e9
          have HN1 := am_ HN0
          clear e9 HN0 HN
          have hbp := blk_cell BP8.out 0
          go_wp2_with (go_at_call 136; refine park ?_)
          clear hbp
          refine ⟨?_⟩
          have CW := Kd.S_reads' HS8.out
          refine (spec_l71Steps.calls k1 A cc q m W8 CW.2.2 CW.2.1 E9.out).mono ?_
          rintro e W9 ⟨rfl, hb⟩
          have HI9 := am_ (IsS116.below HI8.out hb)
          have HB9 := am_ (below_then HB8.out HB8.out.size hb)
          have HK9 := am_ (KeepBut.trans HK8.out (KeepBut.of_below hb g none) (.inl rfl))
          have BR9 := am_ (blk_below BR8.out hb)
          have BP9 := am_ (blk_below BP8.out hb)
          have HS9 := am_ (Kd.S_below HS8.out hb)
          clear hb CW HI8 HB8 HK8 BR8 BP8 HS8 E9
          by_cases hm8 : m ≤ 8
          · have HN0 := HN1.out
            rw [if_pos hm8] at HN0
            simp only [Option.some.injEq, Prod.mk.injEq] at HN0
            obtain ⟨rfl, rfl⟩ := HN0
            clear HN1
            have hbp := blk_cell BP9.out 0
            have hbr := blk_cell BR9.out 0
            have hfr := blk_frozen BR9.out 0
            go_wp2_with fail
            have HGW := HG.out
            have HG1' := HG1.out
            refine bodyPost_ret (results_cell_row rfl _ _ w.heap.size 35 #[.slice A q.length cc] (0, 0) _ rfl (blk_set BR9.out 0 _) Try.underlying35 rfl (by kernel_rfl)) rfl ?_
            exact ⟨_, rfl, Kd.S_mono (Kd.S_lower (Kd.S_far (p := ⟨w.heap.size, 0, none⟩) (Kd.S_bound HS9.out) (fun k hk => by show k ≠ w.heap.size; have := hk.2.1; omega) _) (by omega)) (fun _ _ => trivial), IsS116.far (p := ⟨w.heap.size, 0, none⟩) HI9.out (by show g ≠ w.heap.size; omega) _, below_set (g := w.heap.size) (j := 0) HB9.out HWW.out, keep_set_new (p := ⟨w.heap.size, 0, none⟩) HK9.out (Nat.le_refl _) _⟩
          have HN' := am_ (show spec_l71Prog.l0 k1 (wrap64 (i + 1)) s0_0 s3 = some (r1, r2) from by have := HN1.out; rw [if_neg hm8] at this; exact this)
          clear HN1
          go_wp2_with fail
          go_roundg k1
          case measure => omega
          case rel => exact ⟨_, _, rfl, HN', ⟨by have := HK.out; omega⟩, HI9, HB9, HK9, BR9⟩
      rw [if_neg hlt] at HH
      simp only [Option.some.injEq, Prod.mk.injEq] at HH
      obtain ⟨rfl, rfl⟩ := HH
      go_wp2_with ((with_reducible refine gate_dst (N := 69) rfl ?_); refine park ?_)
      refine ⟨?_⟩
      refine Kd.R_lit k85 (w0 := wr) wr.heap.size 85 rfl (N := 69) rfl (xs := ([(⟨1, 0, 1⟩ : S85)] : List S85)) (inner := [.int .i64 1, .int .i64 0, .int .i64 1]) (ok := fun _ => True) (okp := fun _ => True) ?hr ?hp (fun _ hk => hk) trivial (Below.refl _ _) (Nat.le_refl _) (by simp) ?_
      case hr => first | (go_simp; done) | (go_simp; rfl)
      case hp => exact Reps.c3 (show Kd.M k85 _ _ _ (⟨1, 0, 1⟩ : S85) [.int .i64 1, .int .i64 0, .int .i64 1] from (k85_mkM _ _ _ (⟨1, 0, 1⟩ : S85))) (Reps.none _ _)
      intro v1 X1 h1 bh1 gh1 nh1
      have S1 := gh1.size
      clear bh1 nh1
      go_wp2_with ((with_reducible refine gate_dst (N := 71) rfl ?_); refine park ?_)
      refine ⟨?_⟩
      refine Kd.R_lit k85 (w0 := X1) X1.heap.size 85 rfl (N := 71) rfl (xs := ([(⟨2, 0, 0⟩ : S85)] : List S85)) (inner := [.int .i64 2, .int .i64 0, .int .i64 0]) (ok := fun _ => True) (okp := fun _ => True) ?hr ?hp (fun _ hk => hk) trivial (Below.refl _ _) (Nat.le_refl _) (by simp) ?_
      case hr => first | (go_simp; done) | (go_simp; rfl)
      case hp => exact Reps.c3 (show Kd.M k85 _ _ _ (⟨2, 0, 0⟩ : S85) [.int .i64 2, .int .i64 0, .int .i64 0] from (k85_mkM _ _ _ (⟨2, 0, 0⟩ : S85))) (Reps.none _ _)
      intro v2 X2 h2 bh2 gh2 nh2
      have S2 := gh2.size
      clear bh2 nh2
      obtain ⟨A1, c1, rfl⟩ := Kd.R_slice h1
      obtain ⟨A2, c2, rfl⟩ := Kd.R_slice h2
      have L1 := am_ (Kd.R_step (Kd.R_mono (ok' := fun k => wr.heap.size ≤ k ∧ k < X1.heap.size) (Kd.R_bound h1) (fun k hk => ⟨hk.2.1, hk.2.2.1⟩)) (fun j hj hlt => gh2.block j hlt (by simp)))
      have L2 := am_ (Kd.R_mono (ok' := fun k => X1.heap.size ≤ k ∧ k < X2.heap.size) (Kd.R_bound h2) (fun k hk => ⟨hk.2.1, hk.2.2.1⟩))
      have HI2 := am_ (IsS116.grown (IsS116.grown HIr.out gh1 (by simp)) gh2 (by simp))
      have HB2 := am_ ((HBr.out.grown gh1 HBr.out.size (by simp)).grown gh2 (HBr.out.grown gh1 HBr.out.size (by simp)).size (by simp))
      have HK2 := am_ (KeepBut.trans (KeepBut.trans HKr.out (KeepBut.of_grown gh1 g) (by simp)) (KeepBut.of_grown gh2 g) (by simp))
      have BR2 := am_ (blk_grown (blk_grown BRr.out gh1 (by simp)) gh2 (by simp))
      have LT := am_ (show w.heap.size < wr.heap.size from blk_lt BRr.out)
      have LS1 := am_ S1
      have LS2 := am_ S2
      clear h1 h2 gh1 gh2 S1 S2 HIr HBr HKr BRr
      go_wp2_with ((with_reducible refine gate_dst (N := 72) rfl ?_); refine park ?_)
      refine ⟨?_⟩
      refine Kd.S_lits (Kd.slice 85 k85) (w0 := X2) wr.heap.size 82 rfl (N := 72) rfl (xs := ([[⟨1, 0, 1⟩], [⟨2, 0, 0⟩]] : List (List S85))) (inner := [.slice A1 1 c1, .slice A2 1 c2]) (ok := fun _ => True) (fun j k => (j = 0 ∧ wr.heap.size ≤ k ∧ k < X1.heap.size) ∨ (j = 1 ∧ X1.heap.size ≤ k)) ?hrun rfl ?hrep ?hap ?hok ?hfresh ?hB ?hbase (by simp) ?_
      case hrun => first | (go_simp; done) | (go_simp; rfl)
      case hrep =>
        intro j x hj
        match j, hj with
        | 0, hj => obtain rfl : [⟨1, 0, 1⟩] = x := by simpa using hj
                   exact Kd.M_row (Kd.R_lower (Kd.R_mono L1.out (fun k hk => .inl ⟨rfl, hk⟩)) (Nat.le_refl _))
        | 1, hj => obtain rfl : [⟨2, 0, 0⟩] = x := by simpa using hj
                   exact Kd.M_row (Kd.R_lower (Kd.R_mono L2.out (fun k hk => .inr ⟨rfl, hk.1⟩)) LS1.out)
        | j + 2, hj => exact absurd hj (by simp)
      case hap => intro i j k h1 h2; rcases h1 with h1 | h1 <;> rcases h2 with h2 | h2 <;> omega
      case hok => intro j k hk; trivial
      case hfresh => trivial
      case hB => exact Below.refl _ _
      case hbase => have := LS1.out; have := LS2.out; omega
      intro v5 X5 hS hBw hgr hat
      obtain ⟨Av, cv, rfl⟩ := Kd.S_slice hS
      have HS5 := am_ hS
      have HI5 := am_ (IsS116.grown HI2.out hgr (by simp))
      have HB5 := am_ (HB2.out.grown hgr HB2.out.size (by simp))
      have HK5 := am_ (KeepBut.trans HK2.out (KeepBut.of_grown hgr g) (by simp))
      have BR5 := am_ (blk_grown BR2.out hgr (by simp))
      clear hS hBw hgr hat HI2 HB2 HK2 BR2 L1 L2
      have hbr := blk_cell BR5.out 0
      have hfr := blk_frozen BR5.out 0
      go_wp2_with fail
      have HGW := HG.out
      have HLT := LT.out
      refine bodyPost_ret (results_cell_row rfl _ _ w.heap.size 35 #[.slice Av 2 cv] (0, 0) _ rfl (blk_set BR5.out 0 _) Try.underlying35 rfl (by kernel_rfl)) rfl ?_
      exact ⟨_, rfl, Kd.S_mono (Kd.S_lower (Kd.S_far (p := ⟨w.heap.size, 0, none⟩) (Kd.S_bound HS5.out) (fun k hk => by show k ≠ w.heap.size; have := hk.2.1; omega) _) (by omega)) (fun _ _ => trivial), IsS116.far (p := ⟨w.heap.size, 0, none⟩) HI5.out (by show g ≠ w.heap.size; omega) _, below_set (g := w.heap.size) (j := 0) HB5.out HWW.out, keep_set_new (p := ⟨w.heap.size, 0, none⟩) HK5.out (Nat.le_refl _) _⟩



end Go.Proofs.Ytefkbmhkhpekjaa.PB
